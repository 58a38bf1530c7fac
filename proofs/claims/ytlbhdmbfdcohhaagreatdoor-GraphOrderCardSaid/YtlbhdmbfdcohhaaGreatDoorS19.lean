import Derived.Test.YtlbhdmbfdcohhaaGreatDoorS18
set_option linter.all false
set_option maxHeartbeats 100000000
noncomputable section
namespace Go.Abs
open Go.RowKit Go.Proofs
set_option maxRecDepth 100000
section
theorem B4C {b:Bool} {D:Nat} {H:Hp} {sz s o n:Nat} {q:Bool} {e:TypeId} {cs cs':List AV} {q':Bool} (hl:Aq H s=some (.cells q e cs)) (hn:o+n*sz≤cs.length) (h:Pu b D ((cs.drop o).take (n*sz)) cs' H q'):Fx b (D+1) (.sl sz s o n) (.list n cs') H true:= λK=>by
 have e1:HO b H (D+1) (.sl sz s o n) K=JL H s λx=>Ky x λ_ cs=>Gs (Nat.mul n sz) (Dv o cs) λc=>Ht (HO b H D) c λ_ c'=>K true (.list n c'):=rfl
 rw[e1,BI hl]
 have e2:(Ky (.cells q e cs) λ_ cs=>Gs (Nat.mul n sz) (Dv o cs) λc=>Ht (HO b H D) c λ_ c'=>K true (.list n c'))=Gs (n*sz) (Dv o cs) λc=>Ht (HO b H D) c λ_ c'=>K true (.list n c'):=rfl
 rw[e2,CE,NB _ _ _ (by simp;omega),h]
theorem B4Z {H:Hp} {r o n e:Nat} {q:Bool} {cs:List AV} {K:Nat→List AV→Aj} (hl:Aq H r=some (.cells q e cs)) (hn:o+n≤cs.length):UV H (.sl 1 r o n) K=K n ((cs.drop o).take n):=by
 have:UV H (.sl 1 r o n) K=JL H r λx=>Ky x λ_ cs=>Gs (Nat.mul n 1) (Dv o cs) λc=>K n c:=rfl
 rw[this,BI hl]
 show Gs (Nat.mul n 1) (Dv o cs) (λc=>K n c)=_
 have e:Nat.mul n 1=n:=l28 n
 rw[e,CE,NB _ _ _ (by simp;omega)]
theorem A96 {n r e:Nat} (a b:Nat) {q:Bool} {cs:List AV} {lo hi:Option AV} {H:Hp} {K:AV→Aj} (hlo:∀K:Nat→Aj,Sj lo 0 K=K a) (hhi:∀K:Nat→Aj,Sj hi n K=K b) (hl:Aq H r=some (.cells q e cs)) (hn:n≤cs.length) (h1:a≤b) (h2:b≤n):A7b n 1 (.ptr r 0 0) lo hi H K=K (.sl 1 r a (b-a)):=by
 have e1:A7b n 1 (.ptr r 0 0) lo hi H K=JL H r λy=>Ky y λ_ cs=>GP cs 0 λcl=>ck (Nat.ble (Nat.add 0 (Nat.mul n 1)) cl) (Sj lo 0 λl=>Sj hi n λh=>ck (Nat.ble l h&&Nat.ble h n) (fN (Nat.add 0 (Nat.mul l 1)) λo'=>fN (Nat.sub h l) λm=>K (.sl 1 r o' m))):=rfl
 rw[e1,BI hl]
 show GP cs 0 _=_
 rw[Co,hlo,hhi,Di,Di]
 have f1:Nat.ble (Nat.add 0 (Nat.mul n 1)) (0+cs.length)=true:=by rw[XQ];show 0+n*1≤_;omega
 have f2:(Nat.ble a b&&Nat.ble b n)=true:=by simp only[Jm,XQ];omega
 have f3:Nat.add 0 (Nat.mul a 1)=a:=by show 0+a*1=a;omega
 rw[f1,f2,f3];rfl
theorem C2Z {r o n m e:Nat} {q:Bool} {cs ys:List AV} {src:AV} {H:Hp} {K:KV} (hs:∀K:Nat→List AV→Aj,UV H src K=K m ys) (hy:ys.length=m) (hm:m≤n) (hn:0<n) (h1:ys.all AV.one=true) (hk:Uh 1 src=true) (hl:Aq H r=some (.cells q e cs)) (ho:o+m≤cs.length):B1Y 1 (.sl 1 r o n) src H K=K (I m) (upd H r (.cells q e (splice cs o ys))):=by
 unfold B1Y
 rw[hs,Co]
 have f1:(Nat.beq (0+ys.length) (Nat.mul m 1)&&(Nat.beq 1 1&&(Nat.blt 0 n&&(Nat.ble m n&&(PZ ys&&Uh 1 src)))))=true:=by
  have:Nat.mul m 1=m:=l28 m
  rw[Gg,h1,hk,hy,this,KF,Zj]
  simp only[l16,l1b,Zj,Jm,UK,XQ]
  omega
 simp only[f1]
 show JL H r _=_
 rw[BI hl]
 show E8 o ys cs _=_
 rw[Ka _ _ _ _ (by omega),Dm];rfl
theorem Lat.upd_new {H H':Hp} {r:Nat} {y:Row} {P:Nat→Prop} (k:Lat H H' P) (hr:A2 H≤r):Lat H (Go.Abs.upd H' r y) P:=
 ⟨λw=>BR (k.wf w),by rw[BY];exact k.nx,λw s x hs hn=>by rw[Ap (by have:=w.lt hs;omega)];exact k.keep w s x hs hn⟩
theorem Lat.new {H H':Hp} {y:Row} {P:Nat→Prop} (k:Lat H H' P):Lat H ((A2 H',y)::H') P:=k.trans (Lat.cons H' y P) (λ_ _ h=>h) (λ_ _ h=>h)
theorem Lat.upd_old {H H':Hp} {r:Nat} {y:Row} {P:Nat→Prop} (k:Lat H H' P) (hr:P r):Lat H (Go.Abs.upd H' r y) P:=k.trans (Lat.upd H' r y hr) (λ_ _ h=>h) (λ_ _ h=>h)
def Chk (H:Hp) (v:AV) (l:List UInt8):Prop:=v=Tw l∨∃r o q e cs,v= .sl 1 r o l.length∧Aq H r=some (.cells q e cs)∧o+l.length≤cs.length∧(cs.drop o).take l.length=KD l
theorem B84 {b:Bool} {D:Nat} {H:Hp} (l:List UInt8):Pu b D (KD l) (KD l) H false:=KA (λb:UInt8=>Value.int .u8 (b.toNat:Int)) l
theorem Chk.fx {H:Hp} {v:AV} {l:List UInt8} (h:Chk H v l):∃q,Fx true depth v (Tw l) H q:=by
 rcases h with rfl|⟨r,o,q,e,cs,rfl,h1,h2,h3⟩
 ·exact⟨_,Pj⟩
 ·exact⟨_,B4C h1 (by omega) (by rw[l28,h3];exact B84 l)⟩
variable {L n:Nat} {K:KV} {x:Aj}
theorem C71 (s:S8) (k w:BitVec 32):(Dx [s.h+QD s.e [6,11,25]+((s.e&&&s.f)^^^(~~~s.e&&&s.g))+k+w+(QD s.a [2,13,22]+((s.a&&&s.b)^^^(s.a&&&s.c)^^^(s.b&&&s.c))),s.a,s.b,s.c,s.d+(s.h+QD s.e [6,11,25]+((s.e&&&s.f)^^^(~~~s.e&&&s.g))+k+w),s.e,s.f,s.g])=Dx (rnd s k w).l:=by
 have e1:QD s.e [6,11,25]=Jy s.e 6^^^Jy s.e 11^^^Jy s.e 25:=by simp[QD]
 have e2:QD s.a [2,13,22]=Jy s.a 2^^^Jy s.a 13^^^Jy s.a 22:=by simp[QD]
 rw[e1,e2,B3i]
theorem C3l {k:AV→AV→AV→AV→AV→Hp→Aj} {ws:List (BitVec 32)} {s0:S8} {H0:Hp} {r2 r8:Nat} {v0 w5:AV} (hws:ws.length=64) (hL:100<L) (h2:A2 H0≤r2) (h8:A2 H0≤r8) (h28:r2≠r8)
 (hx:∀q8 e8 H,Aq H r8=some (.cells q8 e8 (Dx (Zz ws s0 64).l))→Lat H0 H (λ_=>False)→Wf H→k v0 (.ptr r2 0 0) (.ptr r8 0 0) (arr kk) (I 64) H=x):
 ∀(f i:Nat) (q2:Bool) (e2:Nat) (q8:Bool) (e8:Nat) (H:Hp),i≤64→64-i<f→Aq H r2=some (.cells q2 e2 (Dx ws))→Aq H r8=some (.cells q8 e8 (Dx (Zz ws s0 i).l))→Lat H0 H (λ_=>False)→Wf H→
  Hj L (rt L (n+2)) K k f v0 (.ptr r2 0 0) (.ptr r8 0 0) (arr kk) (I i) w5 H=x:=by
 intro f
 induction f with
 |zero=>intro i _ _ _ _ H _ h;omega
 |succ f ih=>
  intro i q2 e2 q8 e8 H hi hf hr2 hr8 hla hw
  rw[RP]
  unfold Jz Av
  rw[DL,EB]
  by_cases h:i<64
  ·rw[if_pos (by simp;omega)]
   generalize hs:Zz ws s0 i=s at hr8
   have g0:(Dx s.l).getD 0 .dk=W s.a:=id rfl
   have g1:(Dx s.l).getD 1 .dk=W s.b:=id rfl
   have g2:(Dx s.l).getD 2 .dk=W s.c:=id rfl
   have g4:(Dx s.l).getD 4 .dk=W s.e:=id rfl
   have g5:(Dx s.l).getD 5 .dk=W s.f:=id rfl
   have g6:(Dx s.l).getD 6 .dk=W s.g:=id rfl
   have g7:(Dx s.l).getD 7 .dk=W s.h:=id rfl
   have gw:(Dx ws).getD i .dk=W (ws.getD i 0):=KG (by omega)
   have i0:= λK=>DZ (t:=AD) (s:=r8) (z:=0) 0 (K:=K) rfl rfl (by decide)
   have i1:= λK=>DZ (t:=AD) (s:=r8) (z:=1) 1 (K:=K) rfl rfl (by decide)
   have i2:= λK=>DZ (t:=AD) (s:=r8) (z:=2) 2 (K:=K) rfl rfl (by decide)
   have i4:= λK=>DZ (t:=AD) (s:=r8) (z:=4) 4 (K:=K) rfl rfl (by decide)
   have i5:= λK=>DZ (t:=AD) (s:=r8) (z:=5) 5 (K:=K) rfl rfl (by decide)
   have i6:= λK=>DZ (t:=AD) (s:=r8) (z:=6) 6 (K:=K) rfl rfl (by decide)
   have i7:= λK=>DZ (t:=AD) (s:=r8) (z:=7) 7 (K:=K) rfl rfl (by decide)
   have iw:= λK=>DZ (t:=BL) (s:=r2) (z:=(i:Int)) i (K:=K) rfl rfl h
   have l8:(Dx s.l).length=8:=rfl
   have lw:(Dx ws).length=64:=by rw[Ge,hws]
   have j1:∀K,Sm 1 Ab 3 [(0,1,.v (.int .i64 6)),(1,1,.v (.int .i64 11)),(2,1,.v (.int .i64 25))] K=K (.list 3 (UL [6,11,25])):= λK=>B92 6 11 25 K
   have j2:∀K,Sm 1 Ab 3 [(0,1,.v (.int .i64 2)),(1,1,.v (.int .i64 13)),(2,1,.v (.int .i64 22))] K=K (.list 3 (UL [2,13,22])):= λK=>B92 2 13 22 K
   have m1:∀w K,Ah (rt L (n+2)) DY [W w,.list 3 (UL [6,11,25])] H K=K (W (QD w [6,11,25])):= λw K=>A4T (ks:=[6,11,25]) (by decide) (by decide) (by omega)
   have m2:∀w K,Ah (rt L (n+2)) DY [W w,.list 3 (UL [2,13,22])] H K=K (W (QD w [2,13,22])):= λw K=>A4T (ks:=[2,13,22]) (by decide) (by decide) (by omega)
   have la:= λ(k:Nat) hk K=>AP (t:=Ao) (p:=k) (K:=K) rfl hr8 hk
   have lb1:= λ(k:Nat) hk K=>AP (t:=Ao) (p:=k) (K:=K) rfl hr2 hk
   have ki:∀K,Tr BL Ao (arr kk) (I i) K=K (W (kk.getD i 0)):= λK=>by
    unfold arr
    rw[B0t i rfl rfl rfl h (by rw[Ge,A8T];decide),B97 h]
   simp(disch:=omega) only[MS,Qz,i0,i1,i2,i4,i5,i6,i7,iw,la,lb1,g0,g1,g2,g4,g5,g6,g7,gw,ki,j1,j2,m1,m2,Sk,A44,NM,A3Y]
   rw[A96 1 8 (λK=>rfl) (λK=>rfl) hr8 (by omega) (by decide) (by decide),MS,A96 0 7 (λK=>rfl) (λK=>rfl) hr8 (by omega) (by decide) (by decide),MS]
   rw[C2Z (λK=>B4Z hr8 (by omega)) rfl (by decide) (by decide) rfl rfl hr8 (by rw[l8];decide),Qz]
   clear la lb1 j1 j2 m1 m2
   have hr83:=AB (q:=q8) (e:=e8) (cs:=Dx [s.a,s.a,s.b,s.c,s.d,s.e,s.f,s.g]) hr8
   have hr23:Aq (upd H r8 (.cells q8 e8 (Dx [s.a,s.a,s.b,s.c,s.d,s.e,s.f,s.g]))) r2=some (.cells q2 e2 (Dx ws)):=by rw[Ap h28];exact hr2
   have hw3:=BR (r:=r8) (y:= .cells q8 e8 (Dx [s.a,s.a,s.b,s.c,s.d,s.e,s.f,s.g])) hw
   have hla3:=hla.upd_new (y:= .cells q8 e8 (Dx [s.a,s.a,s.b,s.c,s.d,s.e,s.f,s.g])) h8
   have hsp:splice (Dx s.l) 1 (((Dx s.l).drop 0).take (7-0))=Dx [s.a,s.a,s.b,s.c,s.d,s.e,s.f,s.g]:=id rfl
   rw[hsp]
   generalize upd H r8 (.cells q8 e8 (Dx [s.a,s.a,s.b,s.c,s.d,s.e,s.f,s.g]))=H3 at hr83 hr23 hw3 hla3
   rw[AP rfl hr83 (by show 4<8;decide)]
   have g3:(Dx [s.a,s.a,s.b,s.c,s.d,s.e,s.f,s.g]).getD 4 .dk=W s.d:=id rfl
   rw[g3,NM,Ez hr83 (by show 0<8;decide) rfl rfl rfl,Ez (AB hr83) (by rw[List.length_set];show 4<8;decide) rfl rfl rfl,CH,Cp (by omega) (by omega),PH]
   have hr':Zz ws s0 (i+1)=rnd s (kk.getD i 0) (ws.getD i 0):=by rw[←hs];rfl
   have hst:∀a d:BitVec 32,((Dx [s.a,s.a,s.b,s.c,s.d,s.e,s.f,s.g]).set 0 (W a)).set 4 (W d)=Dx [a,s.a,s.b,s.c,d,s.e,s.f,s.g]:= λ_ _=>id rfl
   refine ih (i+1) q2 e2 q8 e8 _ (by omega) (by omega) ?_ ?_ ((hla3.upd_new h8).upd_new h8) (BR (BR hw3))
   ·rw[Ap h28,Ap h28];exact hr23
   ·rw[hr',←C71,←hst]
    exact AB (AB hr83)
  ·rw[if_neg (by simp;omega)]
   have:i=64:=by omega
   subst this
   exact hx _ _ _ hr8 hla hw
theorem C3m {k:Hp→Aj} {a b:List (BitVec 32)} {H0:Hp} {s0 r8:Nat} {q0:Bool} {e0:Nat} {v2 v3 v4:AV} (ha:a.length=8) (hb:b.length=8) (h08:s0≠r8)
 (hx:∀H,Aq H s0=some (.cells q0 e0 (Dx (XL a b 8)))→Lat H0 H (λt=>t=s0)→Wf H→k H=x):
 ∀(f i:Nat) (q8:Bool) (e8:Nat) (H:Hp),i≤8→8-i<f→Aq H s0=some (.cells q0 e0 (Dx (XL a b i++a.drop i)))→Aq H r8=some (.cells q8 e8 (Dx b))→Lat H0 H (λt=>t=s0)→Wf H→
  Hl L (rt L n) K k f (.ptr s0 0 0) v2 (.ptr r8 0 0) v3 v4 (I i) H=x:=by
 intro f
 induction f with
 |zero=>intro i _ _ H _ h;omega
 |succ f ih=>
  intro i q8 e8 H hi hf hr0 hr8 hla hw
  rw[RQ]
  unfold J0 Av
  rw[DL,EB]
  by_cases h:i<8
  ·rw[if_pos (by simp;omega)]
   have hl0:(Dx (XL a b i++a.drop i)).length=8:=by rw[Ge,Fl,Q9,l0t,ha];omega
   have hlb:(Dx b).length=8:=by rw[Ge,hb]
   have ga:(Dx (XL a b i++a.drop i)).getD i .dk=W (a.getD i 0):=by
    rw[KG (by rw[Ge] at hl0;omega)]
    congr 1
    rw[TW,TW,l0n (by rw[Q9];omega),Q9,Nat.sub_self,l0d,Nat.add_zero]
   have gb:(Dx b).getD i .dk=W (b.getD i 0):=KG (by omega)
   have ia:= λK=>DZ (t:=AD) (s:=s0) (z:=(i:Int)) i (K:=K) rfl rfl h
   have ib:= λK=>DZ (t:=AD) (s:=r8) (z:=(i:Int)) i (K:=K) rfl rfl h
   have la:= λK=>AP (t:=Ao) (p:=i) (K:=K) rfl hr0 (by omega)
   have lb:= λK=>AP (t:=Ao) (p:=i) (K:=K) rfl hr8 (by omega)
   simp only[HL,MS,ia,ib,la,lb,ga,gb,NM]
   rw[Ez hr0 (by omega) rfl rfl rfl,Qz,CH,Cp (by omega) (by omega),PH]
   have hst:(Dx (XL a b i++a.drop i)).set i (W (a.getD i 0+b.getD i 0))=Dx (XL a b (i+1)++a.drop (i+1)):=by
    rw[A4c,l0k]
    have:a.drop i=a.getD i 0::a.drop (i+1):=by rw[l11 (by omega),TW,Kq (by omega)];rfl
    rw[this]
    unfold Dx
    rw[Zl,Zl,List.set_append_right _ _ (by rw[Wv,Q9];omega),Wv,Q9,Nat.sub_self]
    rfl
   refine ih (i+1) q8 e8 _ (by omega) (by omega) ?_ ?_ (hla.upd_old rfl) (BR hw)
   ·rw[←hst];exact AB hr0
   ·rw[Ap (Ne.symm h08)];exact hr8
  ·rw[if_neg (by simp;omega)]
   have:i=8:=by omega
   subst this
   rw[List.drop_of_length_le (by omega),XR] at hr0
   exact hx _ hr0 hla hw
theorem C61 {s:S8} {l:List UInt8} {H:Hp} {s0:Nat} {q0:Bool} {e0:Nat} {c:AV} (hl:l.length=64) (hL:100<L) (hw:Wf H) (hr:Aq H s0=some (.cells q0 e0 (Dx s.l))) (hc:Chk H c l)
 (hx:∀H',Aq H' s0=some (.cells q0 e0 (Dx (blk s l).l))→Lat H H' (λt=>t=s0)→Wf H'→K (.tup []) H'=x):(rt L (n+4)).call Kb [.ptr s0 0 0,c] H K=x:=by
 rw[SX]
 unfold JX Av
 simp only[BX]
 obtain⟨q,hq⟩:=hc.fx
 rw[Ba (A8n (n:=n) hl hL) (Ay hq Be)]
 have h0:=hw.lt hr
 rw[Bi (cs:=Dx (List.replicate 64 0)) rfl]
 unfold arr
 have hn1:=A1 (H:=H) (x:= .cells true C7 (Dx (List.replicate 64 0))) (by simp)
 rw[B7 hn1 (by rw[Ge,Ge,PI];rfl) (by rw[Ge];rfl) (Vg _),HL]
 have hn2:=AB (q:=true) (e:=C7) (cs:=Dx (LG l 48)) hn1
 have hr2:Aq (upd ((A2 H,.cells true C7 (Dx (List.replicate 64 0)))::H) (A2 H) (.cells true C7 (Dx (LG l 48)))) s0=some (.cells q0 e0 (Dx s.l)):=by
  rw[Ap (by omega)];exact AS h0 hr
 have hw2:=BR (r:=A2 H) (y:= .cells true C7 (Dx (LG l 48))) (Br (x:= .cells true C7 (Dx (List.replicate 64 0))) hw)
 have hla2:=((Lat.refl H (λ_=>False)).new (y:= .cells true C7 (Dx (List.replicate 64 0)))).upd_new (r:=A2 H) (y:= .cells true C7 (Dx (LG l 48))) (OV _)
 generalize upd ((A2 H,.cells true C7 (Dx (List.replicate 64 0)))::H) (A2 H) (.cells true C7 (Dx (LG l 48)))=H2 at hn2 hr2 hw2 hla2
 rw[Bq rfl rfl hr2,Bi (cs:=Dx (List.replicate 8 0)) rfl]
 have hn3:=A1 (H:=H2) (x:= .cells true B1 (Dx (List.replicate 8 0))) (by simp)
 rw[B7 (vs:=Dx s.l) hn3 rfl rfl (Vg _)]
 have h2lt:=hw2.lt hn2
 have h0lt:=hw2.lt hr2
 have hn4:=AB (q:=true) (e:=B1) (cs:=Dx s.l) hn3
 have hr4:Aq (upd ((A2 H2,.cells true B1 (Dx (List.replicate 8 0)))::H2) (A2 H2) (.cells true B1 (Dx s.l))) (A2 H)=some (.cells true C7 (Dx (LG l 48))):=by
  rw[Ap (by omega)];exact AS h2lt hn2
 have hw4:=BR (r:=A2 H2) (y:= .cells true B1 (Dx s.l)) (Br (x:= .cells true B1 (Dx (List.replicate 8 0))) hw2)
 have hla4:=(hla2.new (y:= .cells true B1 (Dx (List.replicate 8 0)))).upd_new (r:=A2 H2) (y:= .cells true B1 (Dx s.l)) (by omega)
 generalize upd ((A2 H2,.cells true B1 (Dx (List.replicate 8 0)))::H2) (A2 H2) (.cells true B1 (Dx s.l))=H4 at hn4 hr4 hw4 hla4
 have hg:∀K:AV→Aj,Ar BL (AV.iptr gl0) H4 K=K (arr kk):= λK=>by kernel_rfl
 rw[hg]
 refine C3l (n:=n+1) (ws:=LG l 48) (s0:=s) (H0:=H) (by rw[PI]) hL (OV _) (by omega) (by omega) ?_ L 0 true _ true _ H4 (by omega) (by omega) hr4 hn4 hla4 hw4
 intro q8 e8 H5 hr8 hla5 hw5
 have hr05:=hla5.keep hw s0 _ hr (λh=>h)
 refine C3m (a:=s.l) (b:=(Zz (LG l 48) s 64).l) (H0:=H) rfl rfl (by omega) ?_ L 0 q8 e8 H5 (by omega) (by omega) hr05 hr8 ⟨hla5.wf,hla5.nx,λw t x ht _=>hla5.keep w t x ht (λh=>h)⟩ hw5
 intro H6 hr6 hla6 hw6
 exact hx H6 hr6 hla6 hw6
end
section
def ZN (l:List UInt8) (n:Nat):List UInt8:=l++List.replicate (n-l.length) 0
theorem B41 {l:List UInt8} {n:Nat} (h:l.length≤n):(ZN l n).length=n:=by simp[ZN];omega
theorem B40 {l:List UInt8} {n k:Nat} (w:UInt8) (hk:l.length=k) (h:k<n):(KD (ZN l n)).set k (By w)=KD (ZN (l++[w]) n):=by
 subst hk
 have e:n-l.length=(n-(l.length+1))+1:=by omega
 simp[ZN,KD,e,l17,List.set_append_right]
theorem B1n {l:List UInt8} {n:Nat} (h:l.length=n):ZN l n=l:=by simp[ZN,h]
theorem B61 (w:BitVec 32) {j:Nat} (h:j<4):(wb w).take (j+1)=(wb w).take j++[UInt8.ofNat (w>>>(24-8*j)).toNat]:=by
 have:j=0∨j=1∨j=2∨j=3:=by omega
 rcases this with rfl|rfl|rfl|rfl<;>simp[wb,BitVec.toNat_ushiftRight,Nat.shiftRight_eq_div_pow]
theorem B9z (w:BitVec 32):(wb w).length=4:=rfl
variable {L n:Nat} {K:KV} {x:Aj}
theorem C34 {k:AV→AV→AV→AV→AV→AV→Hp→Aj} {w:BitVec 32} {b:List UInt8} {i r e:Nat} {q:Bool} {v51 v52:AV} (hi:i<8) (hb:b.length=4*i)
 (hx:∀H,Aq H r=some (.cells q e (KD (ZN (b++wb w) 32)))→k (.ptr r 0 0) (I i) (W w) v51 v52 (I 4) H=x):
 ∀(f j:Nat) (H:Hp),j≤4→4-j<f→Aq H r=some (.cells q e (KD (ZN (b++(wb w).take j) 32)))→GC L (rt L n) K k f (.ptr r 0 0) (I i) (W w) v51 v52 (I j) H=x:=by
 intro f
 induction f with
 |zero=>intro j H _ h;omega
 |succ f ih=>
  intro j H hj hf hr
  rw[R5]
  unfold Jf Av
  rw[DL,EB]
  by_cases h:j<4
  ·rw[if_pos (by simp;omega)]
   have e1:(4:Int)*(i:Int)+(j:Int)=((4*i+j:Nat):Int):=by omega
   have e2:(24:Int)-8*(j:Int)=((24-8*j:Nat):Int):=by omega
   simp(disch:=omega) only[OB,CH,HY,Cp,e1,e2,A42,Ir (z:=((24-8*j:Nat):Int)) (k:=24-8*j) rfl (by omega)]
   have hl:(b++(wb w).take j).length=4*i+j:=by rw[Fl,hb,l0g,B9z];omega
   rw[DZ (4*i+j) rfl rfl (by omega),Ez hr (by rw[Og,B41 (by omega)];omega) rfl rfl rfl,B40 _ hl (by omega),l0k,←B61 w h,PH]
   exact ih (j+1) _ (by omega) (by omega) (AB hr)
  ·rw[if_neg (by simp;omega)]
   have:j=4:=by omega
   subst this
   exact hx _ hr
theorem C35 {k:AV→Hp→Aj} {s:S8} {r e:Nat} {q:Bool} {w0 w1 w5:AV} (hL:10<L) (hx:∀H,Aq H r=some (.cells q e (KD (Uu s.l 8)))→k (.ptr r 0 0) H=x):
 ∀(f i:Nat) (w0 w1 w5:AV) (H:Hp),i≤8→8-i<f→Aq H r=some (.cells q e (KD (ZN (Uu s.l i) 32)))→GD L (rt L n) K k f (.ptr r 0 0) w0 w1 (arr s.l) (I i) w5 H=x:=by
 intro f
 induction f with
 |zero=>intro i _ _ _ H _ h;omega
 |succ f ih=>
  intro i w0 w1 w5 H hi hf hr
  rw[R6]
  unfold Jg Av
  rw[DL,EB]
  by_cases h:i<8
  ·rw[if_pos (by simp;omega)]
   simp only[BX]
   unfold arr
   rw[B0t i rfl rfl rfl h (by show 8≤8;decide),KG (show i<s.l.length from h)]
   refine C34 (b:=Uu s.l i) h (Ut _ _) ?_ L 0 H (by omega) (by omega) (by simpa using hr)
   intro H hr
   rw[CH,Cp (by omega) (by omega),PH]
   exact ih (i+1) _ _ _ H (by omega) (by omega) hr
  ·rw[if_neg (by simp;omega)]
   have:i=8:=by omega
   subst this
   rw[B1n (Ut _ _)] at hr
   exact hx _ hr
theorem B3e {s:S8} (hL:10<L):CS (rt L (n+1)) F1 [arr s.l] (S (Uu s.l 8)):=by
 intro K hK
 rw[RZ]
 unfold J5 Av
 simp only[BX]
 unfold arr
 rw[Ft (Vg _),Bi (cs:=KD (ZN (Uu s.l 0) 32)) rfl]
 have hr1:Aq ((A2 [(A2 [],Row.cells true B1 (Dx s.l))],Row.cells true SB (KD (ZN (Uu s.l 0) 32)))::[(A2 [],Row.cells true B1 (Dx s.l))]) (A2 [])=some (.cells true B1 (Dx s.l)):=id rfl
 rw[Bq rfl rfl hr1]
 refine C35 (w0:= .dk) (w1:= .dk) (w5:= .dk) hL ?_ L 0 _ _ _ _ (by omega) (by omega) (A1 (by simp))
 intro H hr
 have hl:(KD (Uu s.l 8)).length=32:=by rw[Og,Ut]
 rw[A96 0 32 (λK=>rfl) (λK=>rfl) hr (by omega) (by decide) (by decide),B0u (e:=SB) (.inr ⟨_,_,rfl,hr,by omega⟩)]
 exact hK _ _ (λb=>⟨false,D2⟩)
end
section
theorem B1N {t:TI} {e r o m:Nat} {x y z:Int} (a b c:Nat) {K:AV→Aj} (hd:t.d= .slice e 1) (hx:x=a) (hy:y=b) (hz:z=c) (h1:a≤b) (h2:b≤c) (h3:c≤m):Dh t (.sl 1 r o m) (some (I x)) (some (I y)) (some (I z)) K=K (.sl 1 r (o+a) (b-a)):=by
 subst hx hy hz
 have e1:Dh t (.sl 1 r o m) (some (I a)) (some (I b)) (some (I c)) K=iN (a:Int) λl=>iN (b:Int) λh=>iN (c:Int) λx=>ck (Nat.ble l h&&(Nat.ble h x&&Nat.ble x m)) (fN (Nat.add o (Nat.mul l 1)) λo'=>fN (Nat.sub h l) λn=>K (.sl 1 r o' n)):=by
  obtain⟨_,_,d,z⟩:=t;simp only at hd;subst hd;rfl
 rw[e1,Jn,Jn,Jn]
 have f1:(Nat.ble a b&&(Nat.ble b c&&Nat.ble c m))=true:=by simp only[Jm,XQ];omega
 have f2:Nat.add o (Nat.mul a 1)=o+a:=by show o+a*1=_;omega
 rw[f1,f2,Di,Di];rfl
theorem A94 {t:TI} {e r o m:Nat} {x:Int} (a:Nat) {K:AV→Aj} (hd:t.d= .slice e 1) (hx:x=a) (h1:a≤m):Dh t (.sl 1 r o m) (some (I x)) none none K=K (.sl 1 r (o+a) (m-a)):=by
 subst hx
 have e1:Dh t (.sl 1 r o m) (some (I a)) none none K=iN (a:Int) λl=>fN m λh=>fN m λx=>ck (Nat.ble l h&&(Nat.ble h x&&Nat.ble x m)) (fN (Nat.add o (Nat.mul l 1)) λo'=>fN (Nat.sub h l) λn=>K (.sl 1 r o' n)):=by
  obtain⟨_,_,d,z⟩:=t;simp only at hd;subst hd;rfl
 rw[e1,Jn,Di,Di]
 have f1:(Nat.ble a m&&(Nat.ble m m&&Nat.ble m m))=true:=by simp only[Jm,XQ];omega
 have f2:Nat.add o (Nat.mul a 1)=o+a:=by show o+a*1=_;omega
 rw[f1,f2,Di,Di];rfl
theorem C2V {x y:Int} (h:x≤y) {K:AV→Aj}:eMM true (I x) (I y) K=K (I x):=by
 have:eMM true (I x) (I y) K=ck (decide (IntKind.i64=IntKind.i64)) (@Bool.rec (λ_=>Aj) (K (I y)) (K (I x)) (ile x y)):=rfl
 rw[this,JZ,decide_eq_true h];rfl
theorem B8r {ty sz r o m:Nat} {H:Hp} {K:KV}:DK ty (.sl sz r o m) H K=K (.ptr (A2 H) 0 0) ((A2 H,.cells true ty [.sl sz r o m])::H):=by
 unfold DK
 rw[CQ,Gg,BZ];rfl
theorem Ku {b:Bool} {K:AV→Aj}:GR .not (Bo b) K=K (Bo (!b)):=by cases b<;>rfl
variable {L n:Nat} {K:KV} {x:Aj}
def lpS (c0 c2 c3 c4 c5 c6 c34 c35 c36:AV) (p:Option (Option Code)):Row:= .loop 40 [(0,c0),(2,c2),(3,c3),(4,c4),(5,c5),(6,c6),(34,c34),(35,c35),(36,c36)] (E7).2.1 (E7).2.2.1 (E7).2.2.2 p
theorem B73 {c0 c2 c4 c5 c6 c34 c35 c36 c:AV} {H:Hp} {s r0:Nat} {q0:Bool} {e0:Nat} {t:S8} {l:List UInt8} (hl:l.length=64) (hL:100<L) (hw:Wf H) (hr:Aq H r0=some (.cells q0 e0 (Dx t.l))) (hc:Chk H c l) (hs:Aq H s=some (lpS c0 c2 (.ptr r0 0 0) c4 c5 c6 c34 c35 c36 (some none))) (hcs:∀s',AG c s'→s'≠s) (h0s:r0≠s)
 (hx:∀H',Aq H' r0=some (.cells q0 e0 (Dx (blk t l).l))→Aq H' s=some (lpS c0 c2 (.ptr r0 0 0) c4 c5 c6 c34 c35 c36 (some none))→(∀u y,Aq H u=some y→u≠r0→u≠s→Aq H' u=some y)→Wf H'→K (Bo true) H'=x):
 Dy (E L) (rt L (n+5)) (.yl s) [c] H K=x:=by
 show QR (rt L (n+5)) s [c] H K=x
 rw[Vf hs (by kernel_rfl)]
 have hrun:(rt L (n+5)).run= λcf=>TX (E L) (rt L (n+4)) cf:=rfl
 rw[hrun,ZK,Vk hs]
 have hw1:=BR (r:=s) (y:=lpS c0 c2 (.ptr r0 0 0) c4 c5 c6 c34 c35 c36 none) hw
 have hr1:Aq (upd H s (lpS c0 c2 (.ptr r0 0 0) c4 c5 c6 c34 c35 c36 none)) r0=some (.cells q0 e0 (Dx t.l)):=by rw[Ap h0s];exact hr
 have hs1:Aq (upd H s (lpS c0 c2 (.ptr r0 0 0) c4 c5 c6 c34 c35 c36 none)) s=some (lpS c0 c2 (.ptr r0 0 0) c4 c5 c6 c34 c35 c36 none):=IU hs
 have hc1:Chk (upd H s (lpS c0 c2 (.ptr r0 0 0) c4 c5 c6 c34 c35 c36 none)) c l:=by
  rcases hc with h|⟨r,o,q,e,cs,h1,h2,h3,h4⟩
  ·exact .inl h
  ·refine .inr ⟨r,o,q,e,cs,h1,?_,h3,h4⟩
   rw[Ap (hcs r ⟨_,_,_,h1⟩)];exact h2
 refine C61 hl hL hw1 hr1 hc1 ?_
 intro H' ha hb hc
 have hs2:=hb.keep hw1 s _ hs1 (λh=>h0s h.symm)
 show ET H' s false (some none) _=_
 unfold lpS at hs2
 rw[Vj hs2]
 refine hx _ ?_ (IU hs2) ?_ (BR hc)
 ·rw[Ap h0s];exact ha
 ·intro u y hu h1 h2
  rw[Ap h2]
  refine hb.keep hw1 u y ?_ h1
  rw[Ap h2];exact hu
theorem C2M {k:Hp→Aj} {c0 c2 c4 c5 c6 c34 c35 c36:AV} {s r0 r1 r2 rm m e1 e2 em:Nat} {q0 q1 q2 qm:Bool} {e0:Nat} {l:List UInt8} (hL:100<L) (hm:l.length=64*m) (hl:l.length<200000000000)
 (d0:r0≠s) (d1:r1≠s) (d2:r2≠s) (dm:rm≠s) (d10:r1≠r0) (d20:r2≠r0) (dm0:rm≠r0)
 (hx:∀H,Aq H r0=some (.cells q0 e0 (Dx (Wp l m).l))→Aq H s=some (lpS c0 c2 (.ptr r0 0 0) c4 c5 c6 c34 c35 c36 (some none))→Wf H→k H=x):
 ∀(f i:Nat) (H:Hp),i≤m→m-i<f→Aq H r0=some (.cells q0 e0 (Dx (Wp l i).l))→Aq H s=some (lpS c0 c2 (.ptr r0 0 0) c4 c5 c6 c34 c35 c36 (some none))→
  Aq H r1=some (.cells q1 e1 [.sl 1 rm 0 l.length])→Aq H r2=some (.cells q2 e2 [I 64])→Aq H rm=some (.cells qm em (KD l))→Wf H→
  D7 L (rt L (n+5)) K k f (.yl s) (.ptr r1 0 0) (.ptr r2 0 0) (I ((64*i:Nat):Int)) H=x:=by
 intro f
 induction f with
 |zero=>intro i H _ h;omega
 |succ f ih=>
  intro i H hi hf h0 hs h1 h2 hrm hw
  rw[KJ]
  unfold EL
  have l1:∀K,Ar AC (.ptr r1 0 0) H K=K (.sl 1 rm 0 l.length):= λK=>AP (p:=0) rfl h1 (by simp)
  have l2:∀K,Ar Ab (.ptr r2 0 0) H K=K (I 64):= λK=>AP (p:=0) rfl h2 (by decide)
  have ln:∀k o K,AQ AC (.sl 1 rm o k) K=K (I k):= λ_ _ _=>id rfl
  rw[l1,ln,DL,EB]
  by_cases h:i<m
  ·rw[if_pos (by simp;omega)]
   have e3:∀K,Dh AC (.sl 1 rm 0 l.length) (some (I ((64*i:Nat):Int))) none none K=K (.sl 1 rm (0+64*i) (l.length-64*i)):= λK=>A94 _ rfl rfl (by omega)
   have e4:((64*i:Nat):Int)+64=((64*(i+1):Nat):Int):=by omega
   have e5:∀K,Dh AC (.sl 1 rm 0 l.length) (some (I ((64*i:Nat):Int))) (some (I ((64*(i+1):Nat):Int))) (some (I ((64*(i+1):Nat):Int))) K=K (.sl 1 rm (0+64*i) (64*(i+1)-64*i)):= λK=>B1N _ _ _ rfl rfl rfl rfl (by omega) (by omega) (by omega)
   have e6:64*(i+1)-64*i=64:=by omega
   simp(disch:=omega) only[MS,l1,l2,e3,ln,C2V,CH,Cp,e4,e5,e6,KF]
   refine B73 (l:=(l.drop (64*i)).take 64) (by simp;omega) hL hw h0 (.inr ⟨rm,64*i,qm,em,KD l,?_,hrm,?_,?_⟩) hs ?_ d0 ?_
   ·have:((l.drop (64*i)).take 64).length=64:=by simp;omega
    rw[this]
   ·have:((l.drop (64*i)).take 64).length=64:=by simp;omega
    rw[this,Og];omega
   ·have:((l.drop (64*i)).take 64).length=64:=by simp;omega
    rw[this];unfold KD;rw[List.map_take,List.map_drop]
   ·rintro s' ⟨_,_,_,hh⟩
    injection hh with _ hh
    subst hh;exact dm
   ·intro H' h0' hs' hk hw'
    have l2':∀K,Ar Ab (.ptr r2 0 0) H' K=K (I 64):= λK=>AP (p:=0) rfl (hk r2 _ h2 d20 d2) (by decide)
    rw[Ku,EB,if_neg (by simp),l2',CH,Cp (by omega) (by omega),e4]
    exact ih (i+1) H' (by omega) (by omega) h0' hs' (hk r1 _ h1 d10 d1) (hk r2 _ h2 d20 d2) (hk rm _ hrm dm0 dm) hw'
  ·rw[if_neg (by simp;omega)]
   have:i=m:=by omega
   subst this
   exact hx _ h0 hs hw
end
section
variable {L n:Nat} {K:KV} {x:Aj}
theorem B5A {H:Hp} {v:AV} {l:List UInt8} {r0:Nat} {y:Row} (b:UInt8) (h:Bv H AY 1 v l.length (KD l)) (w:Wf H) (hn:l.length<1000000000000) (h0:Aq H r0=some y) (hd:¬AG v r0):
 ∃v' H',(∀K:KV,(F3 AY 1 AE 1 [(0,1,By b)] H λv1 H1=>DN AY 1 AE AC v v1 H1 K)=K v' H')∧Bv H' AY 1 v' (l++[b]).length (KD (l++[b]))∧Wf H'∧Aq H' r0=some y∧¬AG v' r0:=by
 obtain⟨v',H',h1,h2,h3,h4,h5,h6⟩:=B5B b h w hn
 exact⟨v',H',h1,h2,h3,h5 r0 y h0 hd,λhh=>by have:=h6 r0 hh;have:=w.lt h0;omega⟩
theorem C4j {k:AV→AV→AV→AV→AV→AV→AV→AV→Hp→Aj} {s:List UInt8} {r0:Nat} {y:Row} {w0 w1 w2 w4 w5 w6 w7 w8:AV} (hs:s.length<100000000000) (hx:∀v H,Bv H AY 1 v (pre s).length (KD (pre s))→Wf H→Aq H r0=some y→¬AG v r0→k w0 w1 w2 v w5 w6 w7 w8 H=x):
 ∀(f j:Nat) (v:AV) (H:Hp),j≤W0 s.length→W0 s.length-j<f→Bv H AY 1 v (s++[128]++List.replicate j 0).length (KD (s++[128]++List.replicate j 0))→Wf H→Aq H r0=some y→¬AG v r0→
  Oe L (rt L n) K k f w0 w1 w2 v w4 w5 w6 w7 w8 H=x:=by
 intro f
 induction f with
 |zero=>intro j v H _ h;omega
 |succ f ih=>
  intro j v H hj hf hv hw h0 hd
  rw[A0a]
  unfold R7 Av
  have hlen:(s++[128]++List.replicate j (0:UInt8)).length=s.length+1+j:=by simp;omega
  have hz:W0 s.length<64:=by unfold W0;omega
  rw[JI rfl hv,UZ (by decide),G6,EB]
  have hm:((s++[128]++List.replicate j (0:UInt8)).length:Int).tmod 64=(((s.length+1+j)%64:Nat):Int):=by rw[hlen];exact(Int.ofNat_tmod _ _).symm
  rw[hm]
  by_cases h:j=W0 s.length
  ·subst h
   have:(s.length+1+W0 s.length)%64=56:=by unfold W0;omega
   rw[this]
   simp only[l14,decide_eq_false_iff_not]
   rw[if_neg (by simp)]
   exact hx _ _ hv hw h0 hd
  ·have hne:(s.length+1+j)%64≠56:=by unfold W0 at h hj;omega
   rw[if_pos (by simp;omega)]
   obtain⟨v',H',h1,h2,h3,h4,h5⟩:=B5A (0:UInt8) hv hw (by omega) h0 hd
   have e:(AV.v (.int .u8 0))=By 0:=rfl
   rw[e]
   rw[h1]
   refine ih (j+1) v' H' (by omega) (by omega) ?_ h3 h4 h5
   rw[List.replicate_succ',←l0k]
   exact h2
theorem C4k {k:AV→AV→AV→AV→AV→AV→AV→AV→Hp→Aj} {s:List UInt8} {r0:Nat} {y:Row} {w1 w2 w5 w6 w7 w8:AV} (hs:s.length<100000000000) (hx:∀v w H,Bv H AY 1 v (ext s).length (KD (ext s))→Wf H→Aq H r0=some y→¬AG v r0→k (S s) w1 w2 v w w5 w7 w8 H=x):
 ∀(f i:Nat) (l:List UInt8) (v:AV) (H:Hp),i≤8→i<f→l++Uf s.length i=ext s→Bv H AY 1 v l.length (KD l)→Wf H→Aq H r0=some y→¬AG v r0→
  KU L (rt L n) K k f (S s) w1 w2 v (I ((i:Int)-1)) w5 w6 w7 w8 H=x:=by
 have hz:W0 s.length<64:=by unfold W0;omega
 intro f
 induction f with
 |zero=>intro i l v H _ h;omega
 |succ f ih=>
  intro i l v H hi hf hl hv hw h0 hd
  have hll:l.length≤s.length+1+64+8:=by
   have:=congrArg List.length hl
   simp[ext,pre,A3y] at this
   omega
  rw[A0b]
  unfold R8 Av
  rw[MR,EB]
  cases i with
  |zero=>
   rw[if_neg (by simp)]
   have:l=ext s:=by simpa [Uf] using hl
   subst this
   exact hx _ _ _ hv hw h0 hd
  |succ i=>
   rw[if_pos (by simp)]
   have e1:((i+1:Nat):Int)-1=(i:Int):=by omega
   rw[e1]
   rw[NI rfl,OB,OB,Cp (by omega) (by omega),Cp (by omega) (by omega)]
   have e2:(8:Int)*(s.length:Int)=((8*s.length:Nat):Int):=by omega
   have e3:(8:Int)*(i:Int)=((8*i:Nat):Int):=by omega
   rw[e2,e3,A2i (by omega)]
   rw[A7k rfl]
   obtain⟨v',H',h1,h2,h3,h4,h5⟩:=B5A (Wj s.length i) hv hw (by omega) h0 hd
   simp(disch:=omega) only[HY,Cp]
   have h1:=h1 (λv37 H36=>KU L (rt L n) K k f (S s) w1 w2 v37 (I ((i:Int)-1)) w5 w6 w7 w8 H36)
   unfold Wj at h1
   rw[h1]
   refine ih i (l++[Wj s.length i]) v' H' (by omega) (by omega) ?_ h2 h3 h4 h5
   rw[l0k]
   exact hl
theorem A9V {R:Rt} {N g:Nat} {cap:List AV} {t:Tm} {ps:Array Tmp} {as' bd:Code} {H:Hp} {K:Option (Option Code)→Hp→Aj}:Zy R N (.fn (.func g) [] cap) t ps as' bd H K=R.call g (.yl (A2 H)::cap) ((A2 H,.loop N t ps as' bd (some none))::H) λ_ H2=>JL H2 (A2 H) λx=>VJ x λ_ _ _ _ _ pend=>LL H2 (A2 H) .gone λH3=>K pend H3:=by
 have e:Zy R N (.fn (.func g) [] cap) t ps as' bd H K=XA3 H λs=>R.call g (.yl s::cap) ((s,.loop N t ps as' bd (some none))::H) λ_ H2=>JL H2 s λx=>VJ x λ_ _ _ _ _ pend=>LL H2 s .gone λH3=>K pend H3:=rfl
 rw[e,BZ]
theorem C4u {s:List UInt8} (hs:s.length<100000000000) (hL:s.length+200<L):CS (rt L (n+8)) Pn [S s] (S (sha s)):=by
 intro K hK
 rw[A1L]
 unfold Ta Av
 simp only[BX]
 have hiv:∀K:AV→Aj,B3 AD [(0,1,(AV.v (.int .u32 1779033703))),(1,1,(AV.v (.int .u32 3144134277))),(2,1,(AV.v (.int .u32 1013904242))),(3,1,(AV.v (.int .u32 2773480762))),(4,1,(AV.v (.int .u32 1359893119))),(5,1,(AV.v (.int .u32 2600822924))),(6,1,(AV.v (.int .u32 528734635))),(7,1,(AV.v (.int .u32 1541459225)))] K=K (.agg (Dx iv.l)):= λK=>by kernel_rfl
 rw[hiv,Bi (cs:=Dx (List.replicate 8 0)) rfl]
 have hn0:=A1 (H:=[]) (x:= .cells true B1 (Dx (List.replicate 8 0))) (by simp)
 rw[B7 (vs:=Dx iv.l) hn0 rfl rfl (Vg _)]
 have hr0:=AB (q:=true) (e:=B1) (cs:=Dx iv.l) hn0
 have hw0:=BR (r:=A2 []) (y:= .cells true B1 (Dx iv.l)) (Br (x:= .cells true B1 (Dx (List.replicate 8 0))) FH)
 generalize upd ((A2 [],.cells true B1 (Dx (List.replicate 8 0)))::[]) (A2 []) (.cells true B1 (Dx iv.l))=H0 at hr0 hw0
 have hs2b:∀K:KV,B1Q AY (S s) H0 K=K (.sl 1 (A2 H0) 0 s.length) ((A2 H0,.cells false AY (KD s))::H0):= λK=>by
  have e:B1Q AY (S s) H0 K=GP s 0 λn=>Wn s λcs=>XA3 H0 λr=>K (.sl 1 r 0 n) ((r,.cells false AY cs)::H0):=rfl
  rw[e,Co,Vu,BZ,KF];rfl
 rw[hs2b]
 have hlt:=hw0.lt hr0
 have hr1:=AS (x:= .cells false AY (KD s)) hlt hr0
 have hw1:=Br (x:= .cells false AY (KD s)) hw0
 have hv1:=LP (H:=H0) (e:=AY) (n:=s.length) (cs:=KD s) (Og s)
 have e:(AV.v (.int .u8 128))=By 128:=rfl
 obtain⟨v',H',h1,h2,h3,h4,h5⟩:=B5A (128:UInt8) hv1 hw1 (by omega) hr1 (λ⟨_,_,_,hh⟩=>by injection hh with _ hh;omega)
 rw[e,h1]
 have hz:W0 s.length<64:=by unfold W0;omega
 refine C4j hs ?_ L 0 v' H' (by omega) (by omega) (by simpa using h2) h3 h4 h5
 intro v H hv hw hr hd
 refine C4k hs ?_ L 8 (pre s) v H (by omega) (by omega) rfl hv hw hr hd
 intro v w H hv hw hr hd
 obtain⟨m,hm,hm2⟩:=B0o s
 rcases hv with⟨_,h,_⟩|⟨rm,qm,rfl,hrm,hlm⟩
 ·simp[ext] at h
 have hdm:rm≠A2 []:= λh=>hd ⟨_,_,_,by rw[h]⟩
 rw[Oh]
 unfold G8 Av
 simp only[BX]
 rw[B8r,A5n rfl]
 have hr2:=AS (x:= .cells true Li [.sl 1 rm 0 (ext s).length]) (hw.lt hr) hr
 have hrm2:=AS (x:= .cells true Li [.sl 1 rm 0 (ext s).length]) (hw.lt hrm) hrm
 have hb2:=A1 (H:=H) (x:= .cells true Li [.sl 1 rm 0 (ext s).length]) (by simp)
 have hw2:=Br (x:= .cells true Li [.sl 1 rm 0 (ext s).length]) hw
 have a1:=hw.lt hr
 have a2:=hw.lt hrm
 have a3:=hw2.lt hb2
 generalize ((A2 H,Row.cells true Li [.sl 1 rm 0 (ext s).length])::H)=Ha at hr2 hrm2 hb2 hw2 a3
 have hr3:=AS (x:= .cells true DA [I 64]) (hw2.lt hr2) hr2
 have hrm3:=AS (x:= .cells true DA [I 64]) (hw2.lt hrm2) hrm2
 have hb3:=AS (x:= .cells true DA [I 64]) (hw2.lt hb2) hb2
 have hc3:=A1 (H:=Ha) (x:= .cells true DA [I 64]) (by simp)
 have hw3:=Br (x:= .cells true DA [I 64]) hw2
 have a4:=hw2.lt hr2
 have a5:=hw2.lt hrm2
 have a6:=hw3.lt hc3
 generalize ((A2 Ha,Row.cells true DA [I 64])::Ha)=Hb at hr3 hrm3 hb3 hc3 hw3 a6
 have l2:∀K,Ar Ab (.ptr (A2 Ha) 0 0) Hb K=K (I 64):= λK=>AP (p:=0) rfl hc3 (by decide)
 rw[l2,DL,EB,if_neg (by decide),A9V,Lr]
 unfold EX Av
 simp only[BX]
 have a7:=hw3.lt hr3
 have a8:=hw3.lt hrm3
 have a9:=hw3.lt hb3
 refine C2M (n:=n+1) (m:=m) (l:=ext s) (s:=A2 Hb) (r0:=A2 []) (r1:=A2 H) (r2:=A2 Ha) (rm:=rm) (by omega) hm (by omega) (by omega) (by omega) (by omega) (by omega) (by omega) (by omega) hdm ?_ L 0 _ (by omega) (by omega) (AS a7 hr3) (A1 (x:=lpS (S s) (AV.v (.string ⟨⟨[]⟩⟩)) (.ptr (A2 []) 0 0) (.sl 1 rm 0 (ext s).length) _ _ _ _ _ (some none)) (by simp[lpS])) (AS a9 hb3) (AS a6 hc3) (AS a8 hrm3) (Br hw3)
 intro H4 h0 hs4 hw4
 rw[BI hs4]
 show LL H4 (A2 Hb) .gone _=_
 rw[Dm]
 show Ar AD (.ptr (A2 []) 0 0) (upd H4 (A2 Hb) .gone) _=_
 have h0':Aq (upd H4 (A2 Hb) .gone) (A2 [])=some (.cells true B1 (Dx (Wp (ext s) m).l)):=by rw[Ap (by omega)];exact h0
 rw[Bq rfl rfl h0']
 have hsd:∀K,Ah (rt L (n+7)) F1 [.agg (Dx (Wp (ext s) m).l)] (upd H4 (A2 Hb) .gone) K=K (S (Uu (Wp (ext s) m).l 8)):= λK=>Ba (B3e (L:=L) (n:=n+6) (by omega)) (Ay (Qm (KA (λx:BitVec 32=>Value.int .u32 (x.toNat:Int)) _)) Be)
 show Ah (rt L (n+7)) F1 [.agg (Dx (Wp (ext s) m).l)] (upd H4 (A2 Hb) .gone) _=_
 rw[hsd]
 have e:Uu (Wp (ext s) m).l 8=sha s:=by
  unfold sha
  have:(ext s).length/64=m:=by omega
  rw[this]
 rw[e]
 exact hK _ _ (λb=>⟨false,D2⟩)
end
end Go.Abs
end
