import Derived.Test.YtlbhdmbfdcohhaaGreatDoorR19
set_option linter.all false
set_option maxHeartbeats 100000000
noncomputable section
namespace Go.Abs
open Go.RowKit Go.Proofs
set_option maxRecDepth 100000
section
theorem C2d {b:Bool} {D:Nat} {H:Hp} {sz s o n:Nat} {q:Bool} {e:TypeId} {cs cs':List AV} {q':Bool} (hl:Ax H s=some (.cells q e cs)) (hn:o+n*sz≤cs.length) (h:OM b D ((cs.drop o).take (n*sz)) cs' H q'):Fx b (D+1) (.sl sz s o n) (.list n cs') H true:= λK=>by
 have e1:Jg b H (D+1) (.sl sz s o n) K=Kj H s λx=>KF x λ_ cs=>FT (Nat.mul n sz) (Dp o cs) λc=>HP (Jg b H D) c λ_ c'=>K true (.list n c'):=rfl
 rw[e1,Cl hl]
 have e2:(KF (.cells q e cs) λ_ cs=>FT (Nat.mul n sz) (Dp o cs) λc=>HP (Jg b H D) c λ_ c'=>K true (.list n c'))=FT (n*sz) (Dp o cs) λc=>HP (Jg b H D) c λ_ c'=>K true (.list n c'):=rfl
 rw[e2,C8,MS _ _ _ (by simp;omega),h]
theorem B4v {H:Hp} {r o n e:Nat} {q:Bool} {cs:List AV} {K:Nat→List AV→Al} (hl:Ax H r=some (.cells q e cs)) (hn:o+n≤cs.length):Uu H (.sl 1 r o n) K=K n ((cs.drop o).take n):=by
 have:Uu H (.sl 1 r o n) K=Kj H r λx=>KF x λ_ cs=>FT (Nat.mul n 1) (Dp o cs) λc=>K n c:=rfl
 rw[this,Cl hl]
 show FT (Nat.mul n 1) (Dp o cs) (λc=>K n c)=_
 have e:Nat.mul n 1=n:=l28 n
 rw[e,C8,MS _ _ _ (by simp;omega)]
theorem A8M {n r e:Nat} (a b:Nat) {q:Bool} {cs:List AV} {lo hi:Option AV} {H:Hp} {K:AV→Al} (hlo:∀K:Nat→Al,T2 lo 0 K=K a) (hhi:∀K:Nat→Al,T2 hi n K=K b) (hl:Ax H r=some (.cells q e cs)) (hn:n≤cs.length) (h1:a≤b) (h2:b≤n):A6M n 1 (.ptr r 0 0) lo hi H K=K (.sl 1 r a (b-a)):=by
 have e1:A6M n 1 (.ptr r 0 0) lo hi H K=Kj H r λy=>KF y λ_ cs=>HJ cs 0 λcl=>ck (Nat.ble (Nat.add 0 (Nat.mul n 1)) cl) (T2 lo 0 λl=>T2 hi n λh=>ck (Nat.ble l h&&Nat.ble h n) (fN (Nat.add 0 (Nat.mul l 1)) λo'=>fN (Nat.sub h l) λm=>K (.sl 1 r o' m))):=rfl
 rw[e1,Cl hl]
 show HJ cs 0 _=_
 rw[Cw,hlo,hhi,DI,DI]
 have f1:Nat.ble (Nat.add 0 (Nat.mul n 1)) (0+cs.length)=true:=by rw[Yf];show 0+n*1≤_;omega
 have f2:(Nat.ble a b&&Nat.ble b n)=true:=by simp only[Jp,Yf];omega
 have f3:Nat.add 0 (Nat.mul a 1)=a:=by show 0+a*1=a;omega
 rw[f1,f2,f3];rfl
theorem C2t {r o n m e:Nat} {q:Bool} {cs ys:List AV} {src:AV} {H:Hp} {K:KV} (hs:∀K:Nat→List AV→Al,Uu H src K=K m ys) (hy:ys.length=m) (hm:m≤n) (hn:0<n) (h1:ys.all AV.one=true) (hk:TH 1 src=true) (hl:Ax H r=some (.cells q e cs)) (ho:o+m≤cs.length):B1E 1 (.sl 1 r o n) src H K=K (I m) (upd H r (.cells q e (splice cs o ys))):=by
 unfold B1E
 rw[hs,Cw]
 have f1:(Nat.beq (0+ys.length) (Nat.mul m 1)&&(Nat.beq 1 1&&(Nat.blt 0 n&&(Nat.ble m n&&(Qa ys&&TH 1 src)))))=true:=by
  have:Nat.mul m 1=m:=l28 m
  rw[Gc,h1,hk,hy,this,Ln,l29]
  simp only[l16,l1b,l29,Jp,Uk,Yf]
  omega
 simp only[f1]
 show Kj H r _=_
 rw[Cl hl]
 show EG o ys cs _=_
 rw[KS _ _ _ _ (by omega),D8];rfl
theorem Lat.upd_new {H H':Hp} {r:Nat} {y:Row} {P:Nat→Prop} (k:Lat H H' P) (hr:A6 H≤r):Lat H (Go.Abs.upd H' r y) P:=
 ⟨λw=>Cj (k.wf w),by rw[Ck];exact k.nx,λw s x hs hn=>by rw[Au (by have:=w.lt hs;omega)];exact k.keep w s x hs hn⟩
theorem Lat.new {H H':Hp} {y:Row} {P:Nat→Prop} (k:Lat H H' P):Lat H ((A6 H',y)::H') P:=k.trans (Lat.cons H' y P) (λ_ _ h=>h) (λ_ _ h=>h)
theorem Lat.upd_old {H H':Hp} {r:Nat} {y:Row} {P:Nat→Prop} (k:Lat H H' P) (hr:P r):Lat H (Go.Abs.upd H' r y) P:=k.trans (Lat.upd H' r y hr) (λ_ _ h=>h) (λ_ _ h=>h)
def Chk (H:Hp) (v:AV) (l:List UInt8):Prop:=v=Te l∨∃r o q e cs,v= .sl 1 r o l.length∧Ax H r=some (.cells q e cs)∧o+l.length≤cs.length∧(cs.drop o).take l.length=Ki l
theorem B7z {b:Bool} {D:Nat} {H:Hp} (l:List UInt8):OM b D (Ki l) (Ki l) H false:=Kf (λb:UInt8=>Value.int .u8 (b.toNat:Int)) l
theorem Chk.fx {H:Hp} {v:AV} {l:List UInt8} (h:Chk H v l):∃q,Fx true depth v (Te l) H q:=by
 rcases h with rfl|⟨r,o,q,e,cs,rfl,h1,h2,h3⟩
 ·exact⟨_,OA⟩
 ·exact⟨_,C2d h1 (by omega) (by rw[l28,h3];exact B7z l)⟩
variable {L n:Nat} {K:KV} {x:Al}
theorem C6m (s:S8) (k w:BitVec 32):(Db [s.h+Qe s.e [6,11,25]+((s.e&&&s.f)^^^(~~~s.e&&&s.g))+k+w+(Qe s.a [2,13,22]+((s.a&&&s.b)^^^(s.a&&&s.c)^^^(s.b&&&s.c))),s.a,s.b,s.c,s.d+(s.h+Qe s.e [6,11,25]+((s.e&&&s.f)^^^(~~~s.e&&&s.g))+k+w),s.e,s.f,s.g])=Db (rnd s k w).l:=by
 have e1:Qe s.e [6,11,25]=IZ s.e 6^^^IZ s.e 11^^^IZ s.e 25:=by simp[Qe]
 have e2:Qe s.a [2,13,22]=IZ s.a 2^^^IZ s.a 13^^^IZ s.a 22:=by simp[Qe]
 rw[e1,e2,B2Y]
theorem C2M {k:AV→AV→AV→AV→AV→Hp→Al} {ws:List (BitVec 32)} {s0:S8} {H0:Hp} {r2 r8:Nat} {v0 w5:AV} (hws:ws.length=64) (hL:100<L) (h2:A6 H0≤r2) (h8:A6 H0≤r8) (h28:r2≠r8)
 (hx:∀q8 e8 H,Ax H r8=some (.cells q8 e8 (Db (Zb ws s0 64).l))→Lat H0 H (λ_=>False)→Wf H→k v0 (.ptr r2 0 0) (.ptr r8 0 0) (arr kk) (I 64) H=x):
 ∀(f i:Nat) (q2:Bool) (e2:Nat) (q8:Bool) (e8:Nat) (H:Hp),i≤64→64-i<f→Ax H r2=some (.cells q2 e2 (Db ws))→Ax H r8=some (.cells q8 e8 (Db (Zb ws s0 i).l))→Lat H0 H (λ_=>False)→Wf H→
  GG L (rt L (n+2)) K k f v0 (.ptr r2 0 0) (.ptr r8 0 0) (arr kk) (I i) w5 H=x:=by
 intro f
 induction f with
 |zero=>intro i _ _ _ _ H _ h;omega
 |succ f ih=>
  intro i q2 e2 q8 e8 H hi hf hr2 hr8 hla hw
  rw[Ry]
  unfold Ja Ar
  rw[Dy,En]
  by_cases h:i<64
  ·rw[if_pos (by simp;omega)]
   generalize hs:Zb ws s0 i=s at hr8
   have g0:(Db s.l).getD 0 .dk=W s.a:=id rfl
   have g1:(Db s.l).getD 1 .dk=W s.b:=id rfl
   have g2:(Db s.l).getD 2 .dk=W s.c:=id rfl
   have g4:(Db s.l).getD 4 .dk=W s.e:=id rfl
   have g5:(Db s.l).getD 5 .dk=W s.f:=id rfl
   have g6:(Db s.l).getD 6 .dk=W s.g:=id rfl
   have g7:(Db s.l).getD 7 .dk=W s.h:=id rfl
   have gw:(Db ws).getD i .dk=W (ws.getD i 0):=Kk (by omega)
   have i0:= λK=>DC (t:=AF) (s:=r8) (z:=0) 0 (K:=K) rfl rfl (by decide)
   have i1:= λK=>DC (t:=AF) (s:=r8) (z:=1) 1 (K:=K) rfl rfl (by decide)
   have i2:= λK=>DC (t:=AF) (s:=r8) (z:=2) 2 (K:=K) rfl rfl (by decide)
   have i4:= λK=>DC (t:=AF) (s:=r8) (z:=4) 4 (K:=K) rfl rfl (by decide)
   have i5:= λK=>DC (t:=AF) (s:=r8) (z:=5) 5 (K:=K) rfl rfl (by decide)
   have i6:= λK=>DC (t:=AF) (s:=r8) (z:=6) 6 (K:=K) rfl rfl (by decide)
   have i7:= λK=>DC (t:=AF) (s:=r8) (z:=7) 7 (K:=K) rfl rfl (by decide)
   have iw:= λK=>DC (t:=BH) (s:=r2) (z:=(i:Int)) i (K:=K) rfl rfl h
   have l8:(Db s.l).length=8:=rfl
   have lw:(Db ws).length=64:=by rw[FB,hws]
   have j1:∀K,RN 1 Ab 3 [(0,1,.v (.int .i64 6)),(1,1,.v (.int .i64 11)),(2,1,.v (.int .i64 25))] K=K (.list 3 (Um [6,11,25])):= λK=>B8w 6 11 25 K
   have j2:∀K,RN 1 Ab 3 [(0,1,.v (.int .i64 2)),(1,1,.v (.int .i64 13)),(2,1,.v (.int .i64 22))] K=K (.list 3 (Um [2,13,22])):= λK=>B8w 2 13 22 K
   have m1:∀w K,Ah (rt L (n+2)) DB [W w,.list 3 (Um [6,11,25])] H K=K (W (Qe w [6,11,25])):= λw K=>A4z (ks:=[6,11,25]) (by decide) (by decide) (by omega)
   have m2:∀w K,Ah (rt L (n+2)) DB [W w,.list 3 (Um [2,13,22])] H K=K (W (Qe w [2,13,22])):= λw K=>A4z (ks:=[2,13,22]) (by decide) (by decide) (by omega)
   have la:= λ(k:Nat) hk K=>AY (t:=Ao) (p:=k) (K:=K) rfl hr8 hk
   have lb1:= λ(k:Nat) hk K=>AY (t:=Ao) (p:=k) (K:=K) rfl hr2 hk
   have ki:∀K,Ta BH Ao (arr kk) (I i) K=K (W (kk.getD i 0)):= λK=>by
    unfold arr
    rw[B0a i rfl rfl rfl h (by rw[FB,A8z];decide),B8E h]
   simp(disch:=omega) only[Mf,U9,i0,i1,i2,i4,i5,i6,i7,iw,la,lb1,g0,g1,g2,g4,g5,g6,g7,gw,ki,j1,j2,m1,m2,RM,A3L,Na,A3F]
   rw[A8M 1 8 (λK=>rfl) (λK=>rfl) hr8 (by omega) (by decide) (by decide),Mf,A8M 0 7 (λK=>rfl) (λK=>rfl) hr8 (by omega) (by decide) (by decide),Mf]
   rw[C2t (λK=>B4v hr8 (by omega)) rfl (by decide) (by decide) rfl rfl hr8 (by rw[l8];decide),U9]
   clear la lb1 j1 j2 m1 m2
   have hr83:=AC (q:=q8) (e:=e8) (cs:=Db [s.a,s.a,s.b,s.c,s.d,s.e,s.f,s.g]) hr8
   have hr23:Ax (upd H r8 (.cells q8 e8 (Db [s.a,s.a,s.b,s.c,s.d,s.e,s.f,s.g]))) r2=some (.cells q2 e2 (Db ws)):=by rw[Au h28];exact hr2
   have hw3:=Cj (r:=r8) (y:= .cells q8 e8 (Db [s.a,s.a,s.b,s.c,s.d,s.e,s.f,s.g])) hw
   have hla3:=hla.upd_new (y:= .cells q8 e8 (Db [s.a,s.a,s.b,s.c,s.d,s.e,s.f,s.g])) h8
   have hsp:splice (Db s.l) 1 (((Db s.l).drop 0).take (7-0))=Db [s.a,s.a,s.b,s.c,s.d,s.e,s.f,s.g]:=id rfl
   rw[hsp]
   generalize upd H r8 (.cells q8 e8 (Db [s.a,s.a,s.b,s.c,s.d,s.e,s.f,s.g]))=H3 at hr83 hr23 hw3 hla3
   rw[AY rfl hr83 (by show 4<8;decide)]
   have g3:(Db [s.a,s.a,s.b,s.c,s.d,s.e,s.f,s.g]).getD 4 .dk=W s.d:=id rfl
   rw[g3,Na,Ez hr83 (by show 0<8;decide) rfl rfl rfl,Ez (AC hr83) (by rw[List.length_set];show 4<8;decide) rfl rfl rfl,Cz,Cb (by omega) (by omega),OV]
   have hr':Zb ws s0 (i+1)=rnd s (kk.getD i 0) (ws.getD i 0):=by rw[←hs];rfl
   have hst:∀a d:BitVec 32,((Db [s.a,s.a,s.b,s.c,s.d,s.e,s.f,s.g]).set 0 (W a)).set 4 (W d)=Db [a,s.a,s.b,s.c,d,s.e,s.f,s.g]:= λ_ _=>id rfl
   refine ih (i+1) q2 e2 q8 e8 _ (by omega) (by omega) ?_ ?_ ((hla3.upd_new h8).upd_new h8) (Cj (Cj hw3))
   ·rw[Au h28,Au h28];exact hr23
   ·rw[hr',←C6m,←hst]
    exact AC (AC hr83)
  ·rw[if_neg (by simp;omega)]
   have:i=64:=by omega
   subst this
   exact hx _ _ _ hr8 hla hw
theorem C2N {k:Hp→Al} {a b:List (BitVec 32)} {H0:Hp} {s0 r8:Nat} {q0:Bool} {e0:Nat} {v2 v3 v4:AV} (ha:a.length=8) (hb:b.length=8) (h08:s0≠r8)
 (hx:∀H,Ax H s0=some (.cells q0 e0 (Db (Xp a b 8)))→Lat H0 H (λt=>t=s0)→Wf H→k H=x):
 ∀(f i:Nat) (q8:Bool) (e8:Nat) (H:Hp),i≤8→8-i<f→Ax H s0=some (.cells q0 e0 (Db (Xp a b i++a.drop i)))→Ax H r8=some (.cells q8 e8 (Db b))→Lat H0 H (λt=>t=s0)→Wf H→
  GH L (rt L n) K k f (.ptr s0 0 0) v2 (.ptr r8 0 0) v3 v4 (I i) H=x:=by
 intro f
 induction f with
 |zero=>intro i _ _ H _ h;omega
 |succ f ih=>
  intro i q8 e8 H hi hf hr0 hr8 hla hw
  rw[R4]
  unfold Jb Ar
  rw[Dy,En]
  by_cases h:i<8
  ·rw[if_pos (by simp;omega)]
   have hl0:(Db (Xp a b i++a.drop i)).length=8:=by rw[FB,FA,PY,l0t,ha];omega
   have hlb:(Db b).length=8:=by rw[FB,hb]
   have ga:(Db (Xp a b i++a.drop i)).getD i .dk=W (a.getD i 0):=by
    rw[Kk (by rw[FB] at hl0;omega)]
    congr 1
    rw[Ul,Ul,l0n (by rw[PY];omega),PY,Nat.sub_self,l0d,Nat.add_zero]
   have gb:(Db b).getD i .dk=W (b.getD i 0):=Kk (by omega)
   have ia:= λK=>DC (t:=AF) (s:=s0) (z:=(i:Int)) i (K:=K) rfl rfl h
   have ib:= λK=>DC (t:=AF) (s:=r8) (z:=(i:Int)) i (K:=K) rfl rfl h
   have la:= λK=>AY (t:=Ao) (p:=i) (K:=K) rfl hr0 (by omega)
   have lb:= λK=>AY (t:=Ao) (p:=i) (K:=K) rfl hr8 (by omega)
   simp only[Hh,Mf,ia,ib,la,lb,ga,gb,Na]
   rw[Ez hr0 (by omega) rfl rfl rfl,U9,Cz,Cb (by omega) (by omega),OV]
   have hst:(Db (Xp a b i++a.drop i)).set i (W (a.getD i 0+b.getD i 0))=Db (Xp a b (i+1)++a.drop (i+1)):=by
    rw[A3U,l0k]
    have:a.drop i=a.getD i 0::a.drop (i+1):=by rw[l11 (by omega),Ul,JV (by omega)];rfl
    rw[this]
    unfold Db
    rw[l01,l01,List.set_append_right _ _ (by rw[l1u,PY];omega),l1u,PY,Nat.sub_self]
    rfl
   refine ih (i+1) q8 e8 _ (by omega) (by omega) ?_ ?_ (hla.upd_old rfl) (Cj hw)
   ·rw[←hst];exact AC hr0
   ·rw[Au (Ne.symm h08)];exact hr8
  ·rw[if_neg (by simp;omega)]
   have:i=8:=by omega
   subst this
   rw[List.drop_of_length_le (by omega),l1o] at hr0
   exact hx _ hr0 hla hw
theorem C5e {s:S8} {l:List UInt8} {H:Hp} {s0:Nat} {q0:Bool} {e0:Nat} {c:AV} (hl:l.length=64) (hL:100<L) (hw:Wf H) (hr:Ax H s0=some (.cells q0 e0 (Db s.l))) (hc:Chk H c l)
 (hx:∀H',Ax H' s0=some (.cells q0 e0 (Db (blk s l).l))→Lat H H' (λt=>t=s0)→Wf H'→K (.tup []) H'=x):(rt L (n+4)).call J9 [.ptr s0 0 0,c] H K=x:=by
 rw[SD]
 unfold J5 Ar
 simp only[Cp]
 obtain⟨q,hq⟩:=hc.fx
 rw[Bc (A80 (n:=n) hl hL) (A2 hq Bt)]
 have h0:=hw.lt hr
 rw[Bf (cs:=Db (List.replicate 64 0)) rfl]
 unfold arr
 have hn1:=A1 (H:=H) (x:= .cells true Cv (Db (List.replicate 64 0))) (by simp)
 rw[B7 hn1 (by rw[FB,FB,OX];rfl) (by rw[FB];rfl) (UE _),Hh]
 have hn2:=AC (q:=true) (e:=Cv) (cs:=Db (Lf l 48)) hn1
 have hr2:Ax (upd ((A6 H,.cells true Cv (Db (List.replicate 64 0)))::H) (A6 H) (.cells true Cv (Db (Lf l 48)))) s0=some (.cells q0 e0 (Db s.l)):=by
  rw[Au (by omega)];exact Bj h0 hr
 have hw2:=Cj (r:=A6 H) (y:= .cells true Cv (Db (Lf l 48))) (BE (x:= .cells true Cv (Db (List.replicate 64 0))) hw)
 have hla2:=((Lat.refl H (λ_=>False)).new (y:= .cells true Cv (Db (List.replicate 64 0)))).upd_new (r:=A6 H) (y:= .cells true Cv (Db (Lf l 48))) (O8 _)
 generalize upd ((A6 H,.cells true Cv (Db (List.replicate 64 0)))::H) (A6 H) (.cells true Cv (Db (Lf l 48)))=H2 at hn2 hr2 hw2 hla2
 rw[Bm rfl rfl hr2,Bf (cs:=Db (List.replicate 8 0)) rfl]
 have hn3:=A1 (H:=H2) (x:= .cells true Bw (Db (List.replicate 8 0))) (by simp)
 rw[B7 (vs:=Db s.l) hn3 rfl rfl (UE _)]
 have h2lt:=hw2.lt hn2
 have h0lt:=hw2.lt hr2
 have hn4:=AC (q:=true) (e:=Bw) (cs:=Db s.l) hn3
 have hr4:Ax (upd ((A6 H2,.cells true Bw (Db (List.replicate 8 0)))::H2) (A6 H2) (.cells true Bw (Db s.l))) (A6 H)=some (.cells true Cv (Db (Lf l 48))):=by
  rw[Au (by omega)];exact Bj h2lt hn2
 have hw4:=Cj (r:=A6 H2) (y:= .cells true Bw (Db s.l)) (BE (x:= .cells true Bw (Db (List.replicate 8 0))) hw2)
 have hla4:=(hla2.new (y:= .cells true Bw (Db (List.replicate 8 0)))).upd_new (r:=A6 H2) (y:= .cells true Bw (Db s.l)) (by omega)
 generalize upd ((A6 H2,.cells true Bw (Db (List.replicate 8 0)))::H2) (A6 H2) (.cells true Bw (Db s.l))=H4 at hn4 hr4 hw4 hla4
 have hg:∀K:AV→Al,Aq BH (AV.iptr gl0) H4 K=K (arr kk):= λK=>by kernel_rfl
 rw[hg]
 refine C2M (n:=n+1) (ws:=Lf l 48) (s0:=s) (H0:=H) (by rw[OX]) hL (O8 _) (by omega) (by omega) ?_ L 0 true _ true _ H4 (by omega) (by omega) hr4 hn4 hla4 hw4
 intro q8 e8 H5 hr8 hla5 hw5
 have hr05:=hla5.keep hw s0 _ hr (λh=>h)
 refine C2N (a:=s.l) (b:=(Zb (Lf l 48) s 64).l) (H0:=H) rfl rfl (by omega) ?_ L 0 q8 e8 H5 (by omega) (by omega) hr05 hr8 ⟨hla5.wf,hla5.nx,λw t x ht _=>hla5.keep w t x ht (λh=>h)⟩ hw5
 intro H6 hr6 hla6 hw6
 exact hx H6 hr6 hla6 hw6
end
section
def Zr (l:List UInt8) (n:Nat):List UInt8:=l++List.replicate (n-l.length) 0
theorem B3G {l:List UInt8} {n:Nat} (h:l.length≤n):(Zr l n).length=n:=by simp[Zr];omega
theorem B3F {l:List UInt8} {n k:Nat} (w:UInt8) (hk:l.length=k) (h:k<n):(Ki (Zr l n)).set k (By w)=Ki (Zr (l++[w]) n):=by
 subst hk
 have e:n-l.length=(n-(l.length+1))+1:=by omega
 simp[Zr,Ki,e,l17,List.set_append_right]
theorem B15 {l:List UInt8} {n:Nat} (h:l.length=n):Zr l n=l:=by simp[Zr,h]
theorem B5u (w:BitVec 32) {j:Nat} (h:j<4):(wb w).take (j+1)=(wb w).take j++[UInt8.ofNat (w>>>(24-8*j)).toNat]:=by
 have:j=0∨j=1∨j=2∨j=3:=by omega
 rcases this with rfl|rfl|rfl|rfl<;>simp[wb,BitVec.toNat_ushiftRight,Nat.shiftRight_eq_div_pow]
theorem B91 (w:BitVec 32):(wb w).length=4:=rfl
variable {L n:Nat} {K:KV} {x:Al}
theorem C2x {k:AV→AV→AV→AV→AV→AV→Hp→Al} {w:BitVec 32} {b:List UInt8} {i r e:Nat} {q:Bool} {v51 v52:AV} (hi:i<8) (hb:b.length=4*i)
 (hx:∀H,Ax H r=some (.cells q e (Ki (Zr (b++wb w) 32)))→k (.ptr r 0 0) (I i) (W w) v51 v52 (I 4) H=x):
 ∀(f j:Nat) (H:Hp),j≤4→4-j<f→Ax H r=some (.cells q e (Ki (Zr (b++(wb w).take j) 32)))→Gj L (rt L n) K k f (.ptr r 0 0) (I i) (W w) v51 v52 (I j) H=x:=by
 intro f
 induction f with
 |zero=>intro j H _ h;omega
 |succ f ih=>
  intro j H hj hf hr
  rw[Rb]
  unfold ID Ar
  rw[Dy,En]
  by_cases h:j<4
  ·rw[if_pos (by simp;omega)]
   have e1:(4:Int)*(i:Int)+(j:Int)=((4*i+j:Nat):Int):=by omega
   have e2:(24:Int)-8*(j:Int)=((24-8*j:Nat):Int):=by omega
   simp(disch:=omega) only[NU,Cz,GE,Cb,e1,e2,A3J,HO (z:=((24-8*j:Nat):Int)) (k:=24-8*j) rfl (by omega)]
   have hl:(b++(wb w).take j).length=4*i+j:=by rw[FA,hb,l0g,B91];omega
   rw[DC (4*i+j) rfl rfl (by omega),Ez hr (by rw[Ny,B3G (by omega)];omega) rfl rfl rfl,B3F _ hl (by omega),l0k,←B5u w h,OV]
   exact ih (j+1) _ (by omega) (by omega) (AC hr)
  ·rw[if_neg (by simp;omega)]
   have:j=4:=by omega
   subst this
   exact hx _ hr
theorem C2y {k:AV→Hp→Al} {s:S8} {r e:Nat} {q:Bool} {w0 w1 w5:AV} (hL:10<L) (hx:∀H,Ax H r=some (.cells q e (Ki (TV s.l 8)))→k (.ptr r 0 0) H=x):
 ∀(f i:Nat) (w0 w1 w5:AV) (H:Hp),i≤8→8-i<f→Ax H r=some (.cells q e (Ki (Zr (TV s.l i) 32)))→Gk L (rt L n) K k f (.ptr r 0 0) w0 w1 (arr s.l) (I i) w5 H=x:=by
 intro f
 induction f with
 |zero=>intro i _ _ _ H _ h;omega
 |succ f ih=>
  intro i w0 w1 w5 H hi hf hr
  rw[Re]
  unfold IE Ar
  rw[Dy,En]
  by_cases h:i<8
  ·rw[if_pos (by simp;omega)]
   simp only[Cp]
   unfold arr
   rw[B0a i rfl rfl rfl h (by show 8≤8;decide),Kk (show i<s.l.length from h)]
   refine C2x (b:=TV s.l i) h (TU _ _) ?_ L 0 H (by omega) (by omega) (by simpa using hr)
   intro H hr
   rw[Cz,Cb (by omega) (by omega),OV]
   exact ih (i+1) _ _ _ H (by omega) (by omega) hr
  ·rw[if_neg (by simp;omega)]
   have:i=8:=by omega
   subst this
   rw[B15 (TU _ _)] at hr
   exact hx _ hr
theorem B2U {s:S8} (hL:10<L):CS (rt L (n+1)) Ff [arr s.l] (S (TV s.l 8)):=by
 intro K hK
 rw[RB]
 unfold Jf Ar
 simp only[Cp]
 unfold arr
 rw[EY (UE _),Bf (cs:=Ki (Zr (TV s.l 0) 32)) rfl]
 have hr1:Ax ((A6 [(A6 [],Row.cells true Bw (Db s.l))],Row.cells true Sf (Ki (Zr (TV s.l 0) 32)))::[(A6 [],Row.cells true Bw (Db s.l))]) (A6 [])=some (.cells true Bw (Db s.l)):=id rfl
 rw[Bm rfl rfl hr1]
 refine C2y (w0:= .dk) (w1:= .dk) (w5:= .dk) hL ?_ L 0 _ _ _ _ (by omega) (by omega) (A1 (by simp))
 intro H hr
 have hl:(Ki (TV s.l 8)).length=32:=by rw[Ny,TU]
 rw[A8M 0 32 (λK=>rfl) (λK=>rfl) hr (by omega) (by decide) (by decide),B0c (e:=Sf) (.inr ⟨_,_,rfl,hr,by omega⟩)]
 exact hK _ _ (λb=>⟨false,Ed⟩)
end
section
theorem B1u {t:TI} {e r o m:Nat} {x y z:Int} (a b c:Nat) {K:AV→Al} (hd:t.d= .slice e 1) (hx:x=a) (hy:y=b) (hz:z=c) (h1:a≤b) (h2:b≤c) (h3:c≤m):EW t (.sl 1 r o m) (some (I x)) (some (I y)) (some (I z)) K=K (.sl 1 r (o+a) (b-a)):=by
 subst hx hy hz
 have e1:EW t (.sl 1 r o m) (some (I a)) (some (I b)) (some (I c)) K=iN (a:Int) λl=>iN (b:Int) λh=>iN (c:Int) λx=>ck (Nat.ble l h&&(Nat.ble h x&&Nat.ble x m)) (fN (Nat.add o (Nat.mul l 1)) λo'=>fN (Nat.sub h l) λn=>K (.sl 1 r o' n)):=by
  obtain⟨_,_,d,z⟩:=t;simp only at hd;subst hd;rfl
 rw[e1,JW,JW,JW]
 have f1:(Nat.ble a b&&(Nat.ble b c&&Nat.ble c m))=true:=by simp only[Jp,Yf];omega
 have f2:Nat.add o (Nat.mul a 1)=o+a:=by show o+a*1=_;omega
 rw[f1,f2,DI,DI];rfl
theorem A8K {t:TI} {e r o m:Nat} {x:Int} (a:Nat) {K:AV→Al} (hd:t.d= .slice e 1) (hx:x=a) (h1:a≤m):EW t (.sl 1 r o m) (some (I x)) none none K=K (.sl 1 r (o+a) (m-a)):=by
 subst hx
 have e1:EW t (.sl 1 r o m) (some (I a)) none none K=iN (a:Int) λl=>fN m λh=>fN m λx=>ck (Nat.ble l h&&(Nat.ble h x&&Nat.ble x m)) (fN (Nat.add o (Nat.mul l 1)) λo'=>fN (Nat.sub h l) λn=>K (.sl 1 r o' n)):=by
  obtain⟨_,_,d,z⟩:=t;simp only at hd;subst hd;rfl
 rw[e1,JW,DI,DI]
 have f1:(Nat.ble a m&&(Nat.ble m m&&Nat.ble m m))=true:=by simp only[Jp,Yf];omega
 have f2:Nat.add o (Nat.mul a 1)=o+a:=by show o+a*1=_;omega
 rw[f1,f2,DI,DI];rfl
theorem C2q {x y:Int} (h:x≤y) {K:AV→Al}:eMM true (I x) (I y) K=K (I x):=by
 have:eMM true (I x) (I y) K=ck (decide (IntKind.i64=IntKind.i64)) (@Bool.rec (λ_=>Al) (K (I y)) (K (I x)) (ZH x y)):=rfl
 rw[this,J7,decide_eq_true h];rfl
theorem B7W {ty sz r o m:Nat} {H:Hp} {K:KV}:Dh ty (.sl sz r o m) H K=K (.ptr (A6 H) 0 0) ((A6 H,.cells true ty [.sl sz r o m])::H):=by
 unfold Dh
 rw[Dc,Gc,BX];rfl
theorem RK {b:Bool} {K:AV→Al}:F8 .not (Bo b) K=K (Bo (!b)):=by cases b<;>rfl
variable {L n:Nat} {K:KV} {x:Al}
def lpS (c0 c2 c3 c4 c5 c6 c34 c35 c36:AV) (p:Option (Option Code)):Row:= .loop 40 [(0,c0),(2,c2),(3,c3),(4,c4),(5,c5),(6,c6),(34,c34),(35,c35),(36,c36)] (Ek).2.1 (Ek).2.2.1 (Ek).2.2.2 p
theorem B6w {c0 c2 c4 c5 c6 c34 c35 c36 c:AV} {H:Hp} {s r0:Nat} {q0:Bool} {e0:Nat} {t:S8} {l:List UInt8} (hl:l.length=64) (hL:100<L) (hw:Wf H) (hr:Ax H r0=some (.cells q0 e0 (Db t.l))) (hc:Chk H c l) (hs:Ax H s=some (lpS c0 c2 (.ptr r0 0 0) c4 c5 c6 c34 c35 c36 (some none))) (hcs:∀s',AX c s'→s'≠s) (h0s:r0≠s)
 (hx:∀H',Ax H' r0=some (.cells q0 e0 (Db (blk t l).l))→Ax H' s=some (lpS c0 c2 (.ptr r0 0 0) c4 c5 c6 c34 c35 c36 (some none))→(∀u y,Ax H u=some y→u≠r0→u≠s→Ax H' u=some y)→Wf H'→K (Bo true) H'=x):
 Eo (E L) (rt L (n+5)) (.yl s) [c] H K=x:=by
 show Sc (rt L (n+5)) s [c] H K=x
 rw[Xw hs (by kernel_rfl)]
 have hrun:(rt L (n+5)).run= λcf=>Vw (E L) (rt L (n+4)) cf:=rfl
 rw[hrun,Zo,X6 hs]
 have hw1:=Cj (r:=s) (y:=lpS c0 c2 (.ptr r0 0 0) c4 c5 c6 c34 c35 c36 none) hw
 have hr1:Ax (upd H s (lpS c0 c2 (.ptr r0 0 0) c4 c5 c6 c34 c35 c36 none)) r0=some (.cells q0 e0 (Db t.l)):=by rw[Au h0s];exact hr
 have hs1:Ax (upd H s (lpS c0 c2 (.ptr r0 0 0) c4 c5 c6 c34 c35 c36 none)) s=some (lpS c0 c2 (.ptr r0 0 0) c4 c5 c6 c34 c35 c36 none):=MO hs
 have hc1:Chk (upd H s (lpS c0 c2 (.ptr r0 0 0) c4 c5 c6 c34 c35 c36 none)) c l:=by
  rcases hc with h|⟨r,o,q,e,cs,h1,h2,h3,h4⟩
  ·exact .inl h
  ·refine .inr ⟨r,o,q,e,cs,h1,?_,h3,h4⟩
   rw[Au (hcs r ⟨_,_,_,h1⟩)];exact h2
 refine C5e hl hL hw1 hr1 hc1 ?_
 intro H' ha hb hc
 have hs2:=hb.keep hw1 s _ hs1 (λh=>h0s h.symm)
 show Ga H' s false (some none) _=_
 unfold lpS at hs2
 rw[X5 hs2]
 refine hx _ ?_ (MO hs2) ?_ (Cj hc)
 ·rw[Au h0s];exact ha
 ·intro u y hu h1 h2
  rw[Au h2]
  refine hb.keep hw1 u y ?_ h1
  rw[Au h2];exact hu
theorem C2h {k:Hp→Al} {c0 c2 c4 c5 c6 c34 c35 c36:AV} {s r0 r1 r2 rm m e1 e2 em:Nat} {q0 q1 q2 qm:Bool} {e0:Nat} {l:List UInt8} (hL:100<L) (hm:l.length=64*m) (hl:l.length<200000000000)
 (d0:r0≠s) (d1:r1≠s) (d2:r2≠s) (dm:rm≠s) (d10:r1≠r0) (d20:r2≠r0) (dm0:rm≠r0)
 (hx:∀H,Ax H r0=some (.cells q0 e0 (Db (VN l m).l))→Ax H s=some (lpS c0 c2 (.ptr r0 0 0) c4 c5 c6 c34 c35 c36 (some none))→Wf H→k H=x):
 ∀(f i:Nat) (H:Hp),i≤m→m-i<f→Ax H r0=some (.cells q0 e0 (Db (VN l i).l))→Ax H s=some (lpS c0 c2 (.ptr r0 0 0) c4 c5 c6 c34 c35 c36 (some none))→
  Ax H r1=some (.cells q1 e1 [.sl 1 rm 0 l.length])→Ax H r2=some (.cells q2 e2 [I 64])→Ax H rm=some (.cells qm em (Ki l))→Wf H→
  Dk L (rt L (n+5)) K k f (.yl s) (.ptr r1 0 0) (.ptr r2 0 0) (I ((64*i:Nat):Int)) H=x:=by
 intro f
 induction f with
 |zero=>intro i H _ h;omega
 |succ f ih=>
  intro i H hi hf h0 hs h1 h2 hrm hw
  rw[Kn]
  unfold E0
  have l1:∀K,Aq AB (.ptr r1 0 0) H K=K (.sl 1 rm 0 l.length):= λK=>AY (p:=0) rfl h1 (by simp)
  have l2:∀K,Aq Ab (.ptr r2 0 0) H K=K (I 64):= λK=>AY (p:=0) rfl h2 (by decide)
  have ln:∀k o K,AP AB (.sl 1 rm o k) K=K (I k):= λ_ _ _=>id rfl
  rw[l1,ln,Dy,En]
  by_cases h:i<m
  ·rw[if_pos (by simp;omega)]
   have e3:∀K,EW AB (.sl 1 rm 0 l.length) (some (I ((64*i:Nat):Int))) none none K=K (.sl 1 rm (0+64*i) (l.length-64*i)):= λK=>A8K _ rfl rfl (by omega)
   have e4:((64*i:Nat):Int)+64=((64*(i+1):Nat):Int):=by omega
   have e5:∀K,EW AB (.sl 1 rm 0 l.length) (some (I ((64*i:Nat):Int))) (some (I ((64*(i+1):Nat):Int))) (some (I ((64*(i+1):Nat):Int))) K=K (.sl 1 rm (0+64*i) (64*(i+1)-64*i)):= λK=>B1u _ _ _ rfl rfl rfl rfl (by omega) (by omega) (by omega)
   have e6:64*(i+1)-64*i=64:=by omega
   simp(disch:=omega) only[Mf,l1,l2,e3,ln,C2q,Cz,Cb,e4,e5,e6,Ln]
   refine B6w (l:=(l.drop (64*i)).take 64) (by simp;omega) hL hw h0 (.inr ⟨rm,64*i,qm,em,Ki l,?_,hrm,?_,?_⟩) hs ?_ d0 ?_
   ·have:((l.drop (64*i)).take 64).length=64:=by simp;omega
    rw[this]
   ·have:((l.drop (64*i)).take 64).length=64:=by simp;omega
    rw[this,Ny];omega
   ·have:((l.drop (64*i)).take 64).length=64:=by simp;omega
    rw[this];unfold Ki;rw[List.map_take,List.map_drop]
   ·rintro s' ⟨_,_,_,hh⟩
    injection hh with _ hh
    subst hh;exact dm
   ·intro H' h0' hs' hk hw'
    have l2':∀K,Aq Ab (.ptr r2 0 0) H' K=K (I 64):= λK=>AY (p:=0) rfl (hk r2 _ h2 d20 d2) (by decide)
    rw[RK,En,if_neg (by simp),l2',Cz,Cb (by omega) (by omega),e4]
    exact ih (i+1) H' (by omega) (by omega) h0' hs' (hk r1 _ h1 d10 d1) (hk r2 _ h2 d20 d2) (hk rm _ hrm dm0 dm) hw'
  ·rw[if_neg (by simp;omega)]
   have:i=m:=by omega
   subst this
   exact hx _ h0 hs hw
end
section
variable {L n:Nat} {K:KV} {x:Al}
theorem B54 {H:Hp} {v:AV} {l:List UInt8} {r0:Nat} {y:Row} (b:UInt8) (h:B1 H AU 1 v l.length (Ki l)) (w:Wf H) (hn:l.length<1000000000000) (h0:Ax H r0=some y) (hd:¬AX v r0):
 ∃v' H',(∀K:KV,(Fh AU 1 AG 1 [(0,1,By b)] H λv1 H1=>DN AU 1 AG AB v v1 H1 K)=K v' H')∧B1 H' AU 1 v' (l++[b]).length (Ki (l++[b]))∧Wf H'∧Ax H' r0=some y∧¬AX v' r0:=by
 obtain⟨v',H',h1,h2,h3,h4,h5,h6⟩:=B55 b h w hn
 exact⟨v',H',h1,h2,h3,h5 r0 y h0 hd,λhh=>by have:=h6 r0 hh;have:=w.lt h0;omega⟩
theorem C3C {k:AV→AV→AV→AV→AV→AV→AV→AV→Hp→Al} {s:List UInt8} {r0:Nat} {y:Row} {w0 w1 w2 w4 w5 w6 w7 w8:AV} (hs:s.length<100000000000) (hx:∀v H,B1 H AU 1 v (pre s).length (Ki (pre s))→Wf H→Ax H r0=some y→¬AX v r0→k w0 w1 w2 v w5 w6 w7 w8 H=x):
 ∀(f j:Nat) (v:AV) (H:Hp),j≤VW s.length→VW s.length-j<f→B1 H AU 1 v (s++[128]++List.replicate j 0).length (Ki (s++[128]++List.replicate j 0))→Wf H→Ax H r0=some y→¬AX v r0→
  Nw L (rt L n) K k f w0 w1 w2 v w4 w5 w6 w7 w8 H=x:=by
 intro f
 induction f with
 |zero=>intro j v H _ h;omega
 |succ f ih=>
  intro j v H hj hf hv hw h0 hd
  rw[ZM]
  unfold Rf Ar
  have hlen:(s++[128]++List.replicate j (0:UInt8)).length=s.length+1+j:=by simp;omega
  have hz:VW s.length<64:=by unfold VW;omega
  rw[Js rfl hv,Ux (by decide),GF,En]
  have hm:((s++[128]++List.replicate j (0:UInt8)).length:Int).tmod 64=(((s.length+1+j)%64:Nat):Int):=by rw[hlen];exact(Int.ofNat_tmod _ _).symm
  rw[hm]
  by_cases h:j=VW s.length
  ·subst h
   have:(s.length+1+VW s.length)%64=56:=by unfold VW;omega
   rw[this]
   simp only[l14,decide_eq_false_iff_not]
   rw[if_neg (by simp)]
   exact hx _ _ hv hw h0 hd
  ·have hne:(s.length+1+j)%64≠56:=by unfold VW at h hj;omega
   rw[if_pos (by simp;omega)]
   obtain⟨v',H',h1,h2,h3,h4,h5⟩:=B54 (0:UInt8) hv hw (by omega) h0 hd
   have e:(AV.v (.int .u8 0))=By 0:=rfl
   rw[e]
   rw[h1]
   refine ih (j+1) v' H' (by omega) (by omega) ?_ h3 h4 h5
   rw[List.replicate_succ',←l0k]
   exact h2
theorem C3D {k:AV→AV→AV→AV→AV→AV→AV→AV→Hp→Al} {s:List UInt8} {r0:Nat} {y:Row} {w1 w2 w5 w6 w7 w8:AV} (hs:s.length<100000000000) (hx:∀v w H,B1 H AU 1 v (ext s).length (Ki (ext s))→Wf H→Ax H r0=some y→¬AX v r0→k (S s) w1 w2 v w w5 w7 w8 H=x):
 ∀(f i:Nat) (l:List UInt8) (v:AV) (H:Hp),i≤8→i<f→l++TF s.length i=ext s→B1 H AU 1 v l.length (Ki l)→Wf H→Ax H r0=some y→¬AX v r0→
  Kx L (rt L n) K k f (S s) w1 w2 v (I ((i:Int)-1)) w5 w6 w7 w8 H=x:=by
 have hz:VW s.length<64:=by unfold VW;omega
 intro f
 induction f with
 |zero=>intro i l v H _ h;omega
 |succ f ih=>
  intro i l v H hi hf hl hv hw h0 hd
  have hll:l.length≤s.length+1+64+8:=by
   have:=congrArg List.length hl
   simp[ext,pre,A3e] at this
   omega
  rw[ZN]
  unfold Rg Ar
  rw[Me,En]
  cases i with
  |zero=>
   rw[if_neg (by simp)]
   have:l=ext s:=by simpa [TF] using hl
   subst this
   exact hx _ _ _ hv hw h0 hd
  |succ i=>
   rw[if_pos (by simp)]
   have e1:((i+1:Nat):Int)-1=(i:Int):=by omega
   rw[e1]
   rw[MY rfl,NU,NU,Cb (by omega) (by omega),Cb (by omega) (by omega)]
   have e2:(8:Int)*(s.length:Int)=((8*s.length:Nat):Int):=by omega
   have e3:(8:Int)*(i:Int)=((8*i:Nat):Int):=by omega
   rw[e2,e3,A21 (by omega)]
   rw[A6V rfl]
   obtain⟨v',H',h1,h2,h3,h4,h5⟩:=B54 (VG s.length i) hv hw (by omega) h0 hd
   simp(disch:=omega) only[GE,Cb]
   have h1:=h1 (λv37 H36=>Kx L (rt L n) K k f (S s) w1 w2 v37 (I ((i:Int)-1)) w5 w6 w7 w8 H36)
   unfold VG at h1
   rw[h1]
   refine ih i (l++[VG s.length i]) v' H' (by omega) (by omega) ?_ h2 h3 h4 h5
   rw[l0k]
   exact hl
theorem A9B {R:Rt} {N g:Nat} {cap:List AV} {t:Tm} {ps:Array Tmp} {as' bd:Code} {H:Hp} {K:Option (Option Code)→Hp→Al}:Za R N (.fn (.func g) [] cap) t ps as' bd H K=R.call g (.yl (A6 H)::cap) ((A6 H,.loop N t ps as' bd (some none))::H) λ_ H2=>Kj H2 (A6 H) λx=>Vl x λ_ _ _ _ _ pend=>Og H2 (A6 H) .gone λH3=>K pend H3:=by
 have e:Za R N (.fn (.func g) [] cap) t ps as' bd H K=HE H λs=>R.call g (.yl s::cap) ((s,.loop N t ps as' bd (some none))::H) λ_ H2=>Kj H2 s λx=>Vl x λ_ _ _ _ _ pend=>Og H2 s .gone λH3=>K pend H3:=rfl
 rw[e,BX]
theorem C3N {s:List UInt8} (hs:s.length<100000000000) (hL:s.length+200<L):CS (rt L (n+8)) OE [S s] (S (sha s)):=by
 intro K hK
 rw[A1m]
 unfold SH Ar
 simp only[Cp]
 have hiv:∀K:AV→Al,Bk AF [(0,1,(AV.v (.int .u32 1779033703))),(1,1,(AV.v (.int .u32 3144134277))),(2,1,(AV.v (.int .u32 1013904242))),(3,1,(AV.v (.int .u32 2773480762))),(4,1,(AV.v (.int .u32 1359893119))),(5,1,(AV.v (.int .u32 2600822924))),(6,1,(AV.v (.int .u32 528734635))),(7,1,(AV.v (.int .u32 1541459225)))] K=K (.agg (Db iv.l)):= λK=>by kernel_rfl
 rw[hiv,Bf (cs:=Db (List.replicate 8 0)) rfl]
 have hn0:=A1 (H:=[]) (x:= .cells true Bw (Db (List.replicate 8 0))) (by simp)
 rw[B7 (vs:=Db iv.l) hn0 rfl rfl (UE _)]
 have hr0:=AC (q:=true) (e:=Bw) (cs:=Db iv.l) hn0
 have hw0:=Cj (r:=A6 []) (y:= .cells true Bw (Db iv.l)) (BE (x:= .cells true Bw (Db (List.replicate 8 0))) Fv)
 generalize upd ((A6 [],.cells true Bw (Db (List.replicate 8 0)))::[]) (A6 []) (.cells true Bw (Db iv.l))=H0 at hr0 hw0
 have hs2b:∀K:KV,B1v AU (S s) H0 K=K (.sl 1 (A6 H0) 0 s.length) ((A6 H0,.cells false AU (Ki s))::H0):= λK=>by
  have e:B1v AU (S s) H0 K=HJ s 0 λn=>VK s λcs=>HE H0 λr=>K (.sl 1 r 0 n) ((r,.cells false AU cs)::H0):=rfl
  rw[e,Cw,UP,BX,Ln];rfl
 rw[hs2b]
 have hlt:=hw0.lt hr0
 have hr1:=Bj (x:= .cells false AU (Ki s)) hlt hr0
 have hw1:=BE (x:= .cells false AU (Ki s)) hw0
 have hv1:=OW (H:=H0) (e:=AU) (n:=s.length) (cs:=Ki s) (Ny s)
 have e:(AV.v (.int .u8 128))=By 128:=rfl
 obtain⟨v',H',h1,h2,h3,h4,h5⟩:=B54 (128:UInt8) hv1 hw1 (by omega) hr1 (λ⟨_,_,_,hh⟩=>by injection hh with _ hh;omega)
 rw[e,h1]
 have hz:VW s.length<64:=by unfold VW;omega
 refine C3C hs ?_ L 0 v' H' (by omega) (by omega) (by simpa using h2) h3 h4 h5
 intro v H hv hw hr hd
 refine C3D hs ?_ L 8 (pre s) v H (by omega) (by omega) rfl hv hw hr hd
 intro v w H hv hw hr hd
 obtain⟨m,hm,hm2⟩:=B04 s
 rcases hv with⟨_,h,_⟩|⟨rm,qm,rfl,hrm,hlm⟩
 ·simp[ext] at h
 have hdm:rm≠A6 []:= λh=>hd ⟨_,_,_,by rw[h]⟩
 rw[Nz]
 unfold Gf Ar
 simp only[Cp]
 rw[B7W,A90 rfl]
 have hr2:=Bj (x:= .cells true KB [.sl 1 rm 0 (ext s).length]) (hw.lt hr) hr
 have hrm2:=Bj (x:= .cells true KB [.sl 1 rm 0 (ext s).length]) (hw.lt hrm) hrm
 have hb2:=A1 (H:=H) (x:= .cells true KB [.sl 1 rm 0 (ext s).length]) (by simp)
 have hw2:=BE (x:= .cells true KB [.sl 1 rm 0 (ext s).length]) hw
 have a1:=hw.lt hr
 have a2:=hw.lt hrm
 have a3:=hw2.lt hb2
 generalize ((A6 H,Row.cells true KB [.sl 1 rm 0 (ext s).length])::H)=Ha at hr2 hrm2 hb2 hw2 a3
 have hr3:=Bj (x:= .cells true CZ [I 64]) (hw2.lt hr2) hr2
 have hrm3:=Bj (x:= .cells true CZ [I 64]) (hw2.lt hrm2) hrm2
 have hb3:=Bj (x:= .cells true CZ [I 64]) (hw2.lt hb2) hb2
 have hc3:=A1 (H:=Ha) (x:= .cells true CZ [I 64]) (by simp)
 have hw3:=BE (x:= .cells true CZ [I 64]) hw2
 have a4:=hw2.lt hr2
 have a5:=hw2.lt hrm2
 have a6:=hw3.lt hc3
 generalize ((A6 Ha,Row.cells true CZ [I 64])::Ha)=Hb at hr3 hrm3 hb3 hc3 hw3 a6
 have l2:∀K,Aq Ab (.ptr (A6 Ha) 0 0) Hb K=K (I 64):= λK=>AY (p:=0) rfl hc3 (by decide)
 rw[l2,Dy,En,if_neg (by decide),A9B,KK]
 unfold EB Ar
 simp only[Cp]
 have a7:=hw3.lt hr3
 have a8:=hw3.lt hrm3
 have a9:=hw3.lt hb3
 refine C2h (n:=n+1) (m:=m) (l:=ext s) (s:=A6 Hb) (r0:=A6 []) (r1:=A6 H) (r2:=A6 Ha) (rm:=rm) (by omega) hm (by omega) (by omega) (by omega) (by omega) (by omega) (by omega) (by omega) hdm ?_ L 0 _ (by omega) (by omega) (Bj a7 hr3) (A1 (x:=lpS (S s) (AV.v (.string ⟨⟨[]⟩⟩)) (.ptr (A6 []) 0 0) (.sl 1 rm 0 (ext s).length) _ _ _ _ _ (some none)) (by simp[lpS])) (Bj a9 hb3) (Bj a6 hc3) (Bj a8 hrm3) (BE hw3)
 intro H4 h0 hs4 hw4
 rw[Cl hs4]
 show Og H4 (A6 Hb) .gone _=_
 rw[D8]
 show Aq AF (.ptr (A6 []) 0 0) (upd H4 (A6 Hb) .gone) _=_
 have h0':Ax (upd H4 (A6 Hb) .gone) (A6 [])=some (.cells true Bw (Db (VN (ext s) m).l)):=by rw[Au (by omega)];exact h0
 rw[Bm rfl rfl h0']
 have hsd:∀K,Ah (rt L (n+7)) Ff [.agg (Db (VN (ext s) m).l)] (upd H4 (A6 Hb) .gone) K=K (S (TV (VN (ext s) m).l 8)):= λK=>Bc (B2U (L:=L) (n:=n+6) (by omega)) (A2 (PE (Kf (λx:BitVec 32=>Value.int .u32 (x.toNat:Int)) _)) Bt)
 show Ah (rt L (n+7)) Ff [.agg (Db (VN (ext s) m).l)] (upd H4 (A6 Hb) .gone) _=_
 rw[hsd]
 have e:TV (VN (ext s) m).l 8=sha s:=by
  unfold sha
  have:(ext s).length/64=m:=by omega
  rw[this]
 rw[e]
 exact hK _ _ (λb=>⟨false,Ed⟩)
end
end Go.Abs
end
