import Derived.Test.YtlbhdmbfdcohhaaGreatDoorS22
set_option linter.all false
set_option maxHeartbeats 100000000
noncomputable section
namespace Go.Abs
open Go.RowKit Go.Proofs
set_option maxRecDepth 100000
section
variable {L n:Nat} {K:KV} {x:Aj}
theorem A11 {ty:TI} {i:Nat} {K:AV→Aj} (h0:0<i) (h:i<1000000000):Go.Abs.Ak ty .sub (I i) (.v (.int .i64 1)) K=K (I ((i-1:Nat):Int)):=by
 rw[HY,Cp (by omega) (by omega)]
 have:(i:Int)-1=((i-1:Nat):Int):=by omega
 rw[this]
theorem A5j {H:Hp} {r i e:Nat} {q:Bool} {l:List (List UInt8)} {K:AV→Aj} (hl:Aq H r=some (.cells q e (AK l))) (h:i<l.length):Ar Ae (.ptr r i 0) H K=K (S l[i]):=by
 rw[AP (p:=i) rfl hl (by rw[Cr];exact h),Nj h]
theorem X5 {r i m:Nat} {K:AV→Aj} (h:i<m):B9 Ac (.sl 1 r 0 m) (I i) K=K (.ptr r i 0):=by
 rw[A5l rfl (by omega) (by omega),XP]
theorem C3a {R:Rt} {k6:AV→Hp→Aj} {l:List (List UInt8)} {H:Hp} {r e:Nat} {q:Bool} (hl:Aq H r=some (.cells q e (AK l))) (hn:l.Nodup) (hb:l.length<1000000000):∀(f i:Nat) (v w:AV),1≤i→i≤l.length→l.length-i<f→
 Dz (L+20) R K k6 f (.sl 1 r 0 l.length) (I i) v w H=k6 (.sl 1 r 0 l.length) H:=by
 intro f
 induction f with
 |zero=>intro i v w _ _ h;omega
 |succ f ih=>
  intro i v w h1 hi hf
  rw[Kx]
  unfold EC Av
  have el:∀K,AQ Ac (.sl 1 r 0 l.length) K=K (I l.length):= λK=>id rfl
  rw[el]
  by_cases h:i<l.length
  ·rw[FW (by omega),De,X5 h,BN,A5j hl h,BN,A11 (by omega) (by omega),BN,X5 (by omega),BN,A5j hl (by omega),BN,L9]
   have hne:l[i]≠l[i-1]:= λe=>by
    have:=(List.getElem_inj (h₀:=h) (h₁:=by omega) hn).1 e
    omega
   rw[decide_eq_false hne,BN,Bz,D4 (by omega)]
   exact ih (i+1) _ _ (by omega) (by omega) (by omega)
  ·rw[FE (by omega),Bz]
theorem B11 {l:List (List UInt8)} {H:Hp} {r e:Nat} {q:Bool} (hl:Aq H r=some (.cells q e (AK l))) (hn:l.Nodup) (hb:l.length<1000000000) (hL:l.length<L):
 (rt (L+20) (n+1)).call D8 [.sl 1 r 0 l.length] H K=K (.sl 1 r 0 l.length) H:=by
 rw[KN]
 unfold EM Av
 simp only[BX]
 have el:∀K,AQ Ac (.sl 1 r 0 l.length) K=K (I l.length):= λK=>id rfl
 rw[el]
 by_cases h:l.length<2
 ·rw[FW (by omega),De]
 ·rw[FE (by omega),Bz]
  have e1:(AV.v (.int .i64 1))=I ((1:Nat):Int):=rfl
  rw[e1,C3a hl hn hb _ 1 _ _ (by omega) (by omega) (by omega)]
theorem C40 {s:List UInt8} (h:s.length=32):PS (rt (L+20) (n+1)) D6 [S s] (Bo false):=by
 refine CS.ps (λK hK=> ?_) (λH=> λK=>by kernel_rfl)
 rw[Ns]
 unfold Gq Av
 rw[NI rfl,h,G6]
 exact hK _ _ (λb=>⟨false,λK=>by kernel_rfl⟩)
abbrev B5t:AV:= .fn (.func D6) [] []
theorem C2z {k4:Hp→Aj} {ps:List (List UInt8)} {H:Hp} (hb:ps.length<1000000000) (hl:∀s∈ps,s.length=32):∀(f i:Nat),i≤ps.length→ps.length-i<f→
 Cv (L+20) (rt (L+20) (n+1)) K k4 f (Ls ps) B5t (I ps.length) (I i) H=k4 H:=by
 intro f
 induction f with
 |zero=>intro i _ h;omega
 |succ f ih=>
  intro i hi hf
  rw[FL]
  unfold Dj Av
  by_cases h:i<ps.length
  ·rw[FW (by omega),De,NL h,Gt]
   have ez:∀K,Dy (E (L+20)) (rt (L+20) (n+1)) B5t [S ps[i]] H K=Ah (rt (L+20) (n+1)) D6 [S ps[i]] H λv=>K v H:= λK=>by kernel_rfl
   rw[ez,C40 (hl _ (QE h)),Bz,D4 (by omega)]
   exact ih (i+1) (by omega) (by omega)
  ·rw[FE (by omega),Bz]
theorem B2T {ps:List (List UInt8)} (hb:ps.length<1000000000) (hL:ps.length<L) (hl:∀s∈ps,s.length=32):CS (rt (L+20) (n+3)) CW [Ls ps,B5t] (Bo false):=by
 intro K hK
 rw[J1]
 unfold DU Av
 have hi:CS (rt (L+20) (n+2)) C9 [Ls ps,B5t] (I (-1)):=by
  intro K hK
  rw[Gh]
  unfold Dt Av
  simp only[BX]
  have e0:(AV.v (.int .i64 0))=I ((0:Nat):Int):=rfl
  rw[Lc,e0,C2z hb hl _ 0 (by omega) (by omega)]
  exact hK _ _ (λb=>⟨false,λK=>by kernel_rfl⟩)
 rw[Ba (q:=false) hi (λK=>by kernel_rfl),MR]
 exact hK _ _ (λb=>⟨false,λK=>by kernel_rfl⟩)
theorem GS {R:Rt} {f:Nat} {args args':List AV} {v:AV} {H:Hp} {K:AV→Aj} (hc:∀K:KV,(∀v0 H0,(∃q,Fx true depth v0 v H0 q)→K v0 H0=some (v,[]))→R.call f args' [] K=some (v,[])) (ha:Pu true depth args args' H false):Ah R f args H K=K v:=by
 unfold Ah
 rw[ha]
 have:=hc (λv0 H'=>HO (!false) H' depth v0 λ_ v'=>some (v',[])) (λv0 H0 h=>by
  obtain⟨q',h'⟩:=h
  exact h' _)
 rw[this]
 rfl
theorem A3t {ps:List (List UInt8)} (hn:ps.Nodup) (h0:1≤ps.length) (hb:ps.length≤6) (hL:10<L) (hl:∀s∈ps,s.length=32):
 CS (rt (L+20) (n+6)) FG [Ls ps] (Bo true):=by
 intro K hK
 rw[Qh]
 unfold Ij Bc Av Dr
 have hv:∀K,Ah (rt (L+20) (n+5)) XA1 [Ls ps] [] K=K (B2V ps):= λK=>by
  refine GS (args':=[Ls ps]) (λK hK=> ?_) (λK=>by kernel_rfl)
  rw[Lq]
  unfold EV
  rw[C32]
  exact hK _ _ ⟨true,λK=>by kernel_rfl⟩
 rw[hv]
 refine B2H (n:=n) (by omega) (by omega) (by omega) FH λv H hs=> ?_
 have hp:=(CD ps).length_eq
 rcases hs.sl with⟨_,h,_⟩|⟨r,q,rfl,hr,hc⟩
 ·omega
 rw[Lc,WE (n:=n+4) (by omega) (by omega)]
 have g:∀(x:Bool→Aj),gdV true (Bo true) x=x true:= λx=>id rfl
 have c:∀{v:AV} {H:Hp} {K:KV},Ea (some (v,H)) K=K v H:=id rfl
 have pk:∀{a b:AV} {K:AV→Aj},AL (Bo true) a b K=K a:=id rfl
 have nt:∀{K:AV→Aj},GR .not (Bo false) K=K (Bo true):=id rfl
 simp only[g,c]
 have hb2:∀K,Ah (rt (L+20) (n+5)) CW [Ls ps,B5t] H K=K (Bo false):= λK=>Ba (q:=false) (B2T (n:=n+2) (by omega) (by omega) hl) (λK=>by kernel_rfl)
 have el:∀m K,AQ Ac (.sl 1 r 0 m) K=K (I m):= λm K=>id rfl
 have hcm:∀K,(rt (L+20) (n+5)).call D8 [.sl 1 r 0 ps.length] H K=K (.sl 1 r 0 ps.length) H:= λK=>by
  have:=B11 (K:=K) (L:=L) (n:=n+4) hr ((CD ps).nodup_iff.2 hn) (by omega) (by omega)
  rw[hp] at this
  exact this
 simp only[hb2,nt,c,pk,g,hcm,el,Lc,Dd,hp,decide_true]
 exact hK _ _ (λb=>⟨false,λK=>by cases b<;>kernel_rfl⟩)
end
def dig (k:Nat):List UInt8:=if k<10 then[UInt8.ofNat (48+k)] else[UInt8.ofNat (48+k/10),UInt8.ofNat (48+k%10)]
def dec (z:Int):List UInt8:=if z<0 then 45::dig z.natAbs else dig z.natAbs
def qn (z:Int):List UInt8:=dec (if z%4=0 then z/4 else if z%2=0 then z/2 else z)
def qd (z:Int):List UInt8:=if z%4=0 then[49] else if z%2=0 then[50] else[52]
abbrev qa (z:Int):List AV:=[S (qn z),S (qd z)]
theorem B4K {p:Int→Bool} {a b:Int} (h:((List.range (b-a).toNat).all λk=>p ((k:Int)+a))=true) {z:Int} (h1:a≤z) (h2:z<b):p z=true:=by
 have:=HB.1 h (z-a).toNat (Ju.2 (by omega))
 have e:(((z-a).toNat:Nat):Int)+a=z:=by omega
 simp only[e] at this
 exact this
theorem B1j {L m f:Nat} {args:Int→List AV} {val:Int→AV} {a b:Int} (hf:∀z H,Pu true depth (args z) (args z) H false) (h:((List.range (b-a).toNat).all λk=>Iu (AX (CL (rt L m) f (args ((k:Int)+a))) (val ((k:Int)+a))))=true) {z:Int} (h1:a≤z) (h2:z<b):PS (rt L m) f (args z) (val z):=
 B4 (hf z) (B4K (p:= λz=>Iu (AX (CL (rt L m) f (args z)) (val z))) h h1 h2)
theorem Um {z:Int} (h1: -80≤z) (h2:z<81):(qn z).length<4:=by
 have:=B4K (p:= λz=>decide ((qn z).length<4)) (a:= -80) (b:=81) (by kernel_rfl) h1 h2
 simpa using this
theorem Un (z:Int):(qd z).length=1:=by unfold qd;split<;>(try split)<;>rfl
theorem C4F {z:Int} (h1: -80≤z) (h2:z<81) (h:z≠0):qn z≠[48]:=by
 have:=B4K (p:= λz=>decide (z=0∨qn z≠[48])) (a:= -80) (b:=81) (by kernel_rfl) h1 h2
 simpa [h] using this
section
variable {L n:Nat}
theorem B3C {z:Int} (h1: -80≤z) (h2:z<81):PS (rt (L+20) (n+40)) Fg [I z,I 4] (.tup [.agg (qa z),I 0]):=
 B1j (args:= λz=>[I z,I 4]) (val:= λz=> .tup [.agg (qa z),I 0]) (a:= -80) (b:=81) (λz H K=>by kernel_rfl) (by kernel_rfl) h1 h2
theorem A1n {z:Int} (h1: -80≤z) (h2:z<81):PS (rt (L+20) (n+40)) E4 [.agg (qa z)] (Bo true):=
 B1j (args:= λz=>[.agg (qa z)]) (val:= λz=>Bo true) (a:= -80) (b:=81) (λz H K=>by kernel_rfl) (by kernel_rfl) h1 h2
theorem C1S {z:Int} (h1:0≤z) (h2:z<9):PS (rt (L+20) (n+40)) OO [.agg (qa z),.agg [S [48],S [49]]] (I (if z=0 then 0 else 1)):=
 B1j (args:= λz=>[.agg (qa z),.agg [S [48],S [49]]]) (val:= λz=>I (if z=0 then 0 else 1)) (a:=0) (b:=9) (λz H K=>by kernel_rfl) (by kernel_rfl) h1 h2
theorem A6o {z:Int} (h1:0≤z) (h2:z<1):PS (rt (L+20) (n+40)) KT [I z] (.agg [S [48],S [49]]):=
 B1j (args:= λz=>[I z]) (val:= λz=> .agg [S [48],S [49]]) (a:=0) (b:=1) (λz H K=>by kernel_rfl) (by kernel_rfl) h1 h2
end
section
variable {L n:Nat}
theorem B4I {α:Type} (f:α→List AV) (w:Nat) (hf:∀x,(f x).length=w):∀l:List α,(l.flatMap f).length=l.length*w:=by
 intro l
 induction l with
 |nil=>simp
 |cons a l ih=>simp[ih,hf,l19,Nat.add_comm]
theorem A27 {α:Type} (f:α→List AV) (w:Nat) (hf:∀x,(f x).length=w):∀(l:List α) (i:Nat) (h:i<l.length),((l.flatMap f).drop (i*w)).take w=f l[i]:=by
 intro l
 induction l with
 |nil=>intro i h;simp at h
 |cons a l ih=>
  intro i h
  cases i with
  |zero=>
   simp only[l00,Nat.zero_mul,l1n,List.getElem_cons_zero]
   rw[List.take_append_of_le_length (by rw[hf];omega),l1z (by rw[hf];omega)]
  |succ i=>
   simp only[l00,List.getElem_cons_succ]
   have:(i+1)*w=(f a).length+i*w:=by rw[hf,l19];omega
   rw[this,List.drop_append,List.drop_of_length_le (by omega),List.nil_append,Nat.add_sub_cancel_left]
   exact ih i (by simpa using h)
theorem A2g {α:Type} {t:TI} {e w:Nat} {f:α→List AV} {l:List α} {i:Nat} {K:AV→Aj} (hd:t.d= .slice e w) (hf:∀x,(f x).length=w) (h:i<l.length):B9 t (.list l.length (l.flatMap f)) (I i) K=K (.iptr (f l[i])):=by
 have e1:B9 t (.list l.length (l.flatMap f)) (I (i:Int)) K=iN (i:Int) λm=>ck (Nat.blt m l.length) (Ot w (Dv (Nat.mul m w) (l.flatMap f)) λc=>K (.iptr c)):=by
  obtain⟨a,b,d,z⟩:=t;simp only at hd;subst hd;rfl
 rw[e1,Jn,CE,KR]
 have h3:Nat.blt i l.length=true:=by rw[UK];exact h
 rw[h3]
 show K (.iptr (((l.flatMap f).drop (i*w)).take w))=_
 rw[A27 f w hf l i h]
theorem Fs {t:TI} {H:Hp} {r p e:Nat} {q:Bool} {cs:List AV} {K:AV→Aj} (h:t.d.isAgg=true) (hl:Aq H r=some (.cells q e cs)) (hp:p+t.size≤cs.length):Ar t (.ptr r p 0) H K=K (.agg ((cs.drop p).take t.size)):=by
 have:Ar t (.ptr r p 0) H K=JL H r λx=>Ky x λ_ cs=>@Bool.rec (λ_=>Aj) (hdK (Dv (Nat.add p 0) cs) K) (Gs t.size (Dv (Nat.add p 0) cs) λc=>K (.agg c)) t.d.isAgg:=rfl
 rw[this,h,BI hl]
 show Gs t.size (Dv p cs) _=_
 rw[CE,NB _ _ _ (by simp;omega)]
abbrev Tms:=List (Int×Int)
def NO (t:Int×Int):List AV:=[I t.1,S (qn t.2),S (qd t.2)]
def FC (ts:Tms):AV:=match ts with
 |[]=>AA
 |t::ts=> .list (t::ts).length ((t::ts).flatMap NO)
structure TmsOk (ts:Tms):Prop where
 len:ts.length≤6
 rng:∀t∈ts,1≤t.1∧t.1≤100∧ -8≤t.2∧t.2≤8∧t.2≠0
 asc:ts.Pairwise λa b=>a.1<b.1
theorem FI (ts:Tms):Sl (FC ts):=by
 cases ts with
 |nil=>exact .inl rfl
 |cons t ts=>exact .inr ⟨_,_,rfl⟩
theorem O0 {ts:Tms} {K:AV→Aj}:AQ A7 (FC ts) K=K (I ts.length):=by cases ts<;>exact id rfl
theorem B6u {ts:Tms} {i:Nat} (h:i<ts.length):FC ts= .list ts.length (ts.flatMap NO):=by
 cases ts with
 |nil=>simp at h
 |cons t ts=>rfl
theorem Ts {ts:Tms} {i:Nat} {K:AV→Aj} (h:i<ts.length):B9 A7 (FC ts) (I i) K=K (.iptr (NO ts[i])):=by
 rw[B6u h]
 exact A2g (f:=NO) rfl (λ_=>rfl) h
theorem C7n {a b c d:List UInt8} {K:AV→Aj}:Go.Abs.UY Pp .eql (.agg [S a,S b]) (.agg [S c,S d]) K=K (Bo (decide (a=c)&&decide (b=d))):=by
 have e:Go.Abs.UY Pp .eql (.agg [S a,S b]) (.agg [S c,S d]) K=(match(generalizing:=false) (some (eqB a c&&(eqB b d&&true)):Option Bool),BinOp.eql with
  |some q,.eql=>bB q K
  |some q,.neq=>bB (!q) K
  |_,_=>none):=rfl
 rw[e]
 show bB _ K=_
 rw[MT,OQ,OQ,l1b]
 have h1:∀(x y:List UInt8),(x==y)=decide (x=y):= λx y=>by by_cases h:x=y<;>simp[h]
 rw[h1,h1]
section
variable {K:KV} {x:Aj} {ca cb ra rb:List UInt8} {ts:Tms}
theorem gT {q:Bool} {y:Bool→Aj}:gdV q (.v (.bool q)) y=y true:=by cases q<;>exact id rfl
theorem gTF {y:Bool→Aj}:gdV true (.v (.bool false)) y=y false:=id rfl
theorem gFT {y:Bool→Aj}:gdV false (.v (.bool true)) y=y false:=id rfl
theorem Cz {v:AV} {H:Hp} {K:KV}:Ea (some (v,H)) K=K v H:=id rfl
theorem XO {a b:AV} {K:AV→Aj}:AL (.v (.bool true)) a b K=K a:=id rfl
theorem WV {a b:AV} {K:AV→Aj}:AL (.v (.bool false)) a b K=K b:=id rfl
theorem ntT {K:AV→Aj}:GR .not (.v (.bool true)) K=K (Bo false):=id rfl
theorem ntF {K:AV→Aj}:GR .not (.v (.bool false)) K=K (Bo true):=id rfl
abbrev A70 (ca cb ra rb:List UInt8) (ts:Tms):Row:= .cells true DC [S ca,S cb,FC ts,S ra,S rb]
theorem C4z {k37:Hp→Aj} {r0:Nat} (ht:TmsOk ts) (hx:∀H,k37 H=x):∀(f i:Nat) (H:Hp),i≤ts.length→ts.length-i<f→Aq H r0=some (A70 ca cb ra rb ts)→Wf H→
 LX (L+20) (rt (L+20) (n+41)) K k37 f (.ptr r0 0 0) (I i) H=x:=by
 intro f
 induction f with
 |zero=>intro i H _ h;omega
 |succ f ih=>
  intro i H hi hf hl w
  have hb:=ht.len
  rw[Yk]
  unfold PQ Bc BS Av Gb Dr
  have f2:∀K:AV→Aj,AM 2 (.ptr r0 0 0) K=K (.ptr r0 2 0):= λK=>id rfl
  have l2:∀K,Ar A7 (.ptr r0 2 0) H K=K (FC ts):= λK=>AP (p:=2) rfl hl (by simp)
  rw[f2,l2,O0]
  by_cases h:i<ts.length
  ·rw[FW (by omega),De,f2,l2,Ts h]
   have hr:=ht.rng _ (QE h)
   have lt:∀H K,Ar BM (.iptr (NO ts[i])) H K=K (.agg (NO ts[i])):= λH K=>id rfl
   rw[lt,Bi (cs:=[zI,zS,zS]) rfl]
   have hn0:=A1 (H:=H) (x:= .cells true AR [zI,zS,zS]) (by simp)
   rw[B7 (vs:=NO ts[i]) hn0 rfl rfl rfl]
   have hr1:=AB (q:=true) (e:=AR) (cs:=NO ts[i]) hn0
   have hlt:=w.lt hl
   have hl1:Aq (upd ((A2 H,Row.cells true AR [zI,zS,zS])::H) (A2 H) (.cells true AR (NO ts[i]))) r0=some (A70 ca cb ra rb ts):=by
    rw[Ap (by omega)];exact AS hlt hl
   have w1:=BR (r:=A2 H) (y:= .cells true AR (NO ts[i])) (Br (x:= .cells true AR [zI,zS,zS]) w)
   generalize upd ((A2 H,Row.cells true AR [zI,zS,zS])::H) (A2 H) (.cells true AR (NO ts[i]))=H1 at hr1 hl1 w1
   generalize A2 H=r at hr1
   have g1:∀K:AV→Aj,AM 1 (.ptr r 0 0) K=K (.ptr r 1 0):= λK=>id rfl
   have g0:∀K:AV→Aj,AM 0 (.ptr r 0 0) K=K (.ptr r 0 0):= λK=>id rfl
   have m1:∀K,Ar Ax (.ptr r 1 0) H1 K=K (.agg (qa ts[i].2)):= λK=>Fs (p:=1) rfl hr1 (show 3≤3 from OV _)
   have m0:∀K,Ar Ab (.ptr r 0 0) H1 K=K (I ts[i].1):= λK=>AP (p:=0) rfl hr1 (show 0<3 by decide)
   have m2:∀K,Ar A7 (.ptr r0 2 0) H1 K=K (FC ts):= λK=>AP (p:=2) rfl hl1 (by simp)
   rw[g1,m1,A1n (n:=n+1) (by omega) (by omega)]
   have hq:=C4F (by omega) (by omega) hr.2.2.2.2
   have hw:∀H K,Ah (rt (L+20) (n+41)) KT [.v (.int .i64 0)] H K=K (.agg [S [48],S [49]]):= λH K=>A6o (z:=0) (n:=n+1) (by decide) (by decide) H K
   have i1:∀K,Go.Abs.Ak Ab .lss (I ts[i].1) (.v (.int .i64 1)) K=K (Bo false):= λK=>FE (by omega)
   have i2:∀K,Go.Abs.Ak Ab .gtr (I ts[i].1) (.v (.int .i64 1000000)) K=K (Bo false):= λK=>by rw[DM,decide_eq_false (by omega)]
   simp only[ntT,BN,gT,g1,m1,Cz,hw,C7n,hq,decide_false,Bool.false_and,WV,g0,m0,i1,i2]
   by_cases hi0:0<i
   ·have i3:∀K,Go.Abs.Ak Ab .gtr (I (i:Int)) (.v (.int .i64 0)) K=K (Bo true):= λK=>by rw[DM,decide_eq_true (by omega)]
    have hi1:i-1<ts.length:=by omega
    have i5:∀K:AV→Aj,AM 0 (.iptr (NO ts[i-1])) K=K (.iptr (NO ts[i-1])):= λK=>id rfl
    have i6:∀K,Ar Ab (.iptr (NO ts[i-1])) H1 K=K (I ts[i-1].1):= λK=>id rfl
    have hasc:ts[i-1].1<ts[i].1:=(l20.1 ht.asc) (i-1) i hi1 h (by omega)
    have i7:∀K,Go.Abs.Ak Ab .geq (I ts[i-1].1) (I ts[i].1) K=K (Bo false):= λK=>by rw[MR,decide_eq_false (by omega)]
    simp only[i3,BN,Cz,gT,f2,m2,A11 hi0 (by omega:i<1000000000),Ts hi1,i5,i6,g0,m0,i7,XO,WV]
    rw[Bz,D4 (by omega)]
    exact ih (i+1) H1 (by omega) (by omega) hl1 w1
   ·have i3:∀K,Go.Abs.Ak Ab .gtr (I (i:Int)) (.v (.int .i64 0)) K=K (Bo false):= λK=>by rw[DM,decide_eq_false (by omega)]
    simp only[i3,BN,Cz,gT,gTF,XO,WV]
    rw[Bz,D4 (by omega)]
    exact ih (i+1) H1 (by omega) (by omega) hl1 w1
  ·rw[FE (by omega),Bz]
   exact hx H
theorem A1r {c r:Int} (hc1: -80≤c) (hc2:c≤80) (hr1:0≤r) (hr2:r≤8) (hL:10<L) (ht:TmsOk ts):CS (rt (L+20) (n+42)) GI [.agg (VK (qn c) (qd c) (FC ts) (qn r) (qd r))] (Bo true):=by
 intro K hK
 have hb:=ht.len
 rw[ZT]
 unfold Rm BS Av Gb Dr
 rw[Ft (by cases ts<;>rfl)]
 have hn0:=A1 (H:=[]) (x:=A70 (qn c) (qd c) (qn r) (qd r) ts) (by simp)
 have w0:Wf [(A2 [],A70 (qn c) (qd c) (qn r) (qd r) ts)]:=Br FH
 generalize [(A2 [],A70 (qn c) (qd c) (qn r) (qd r) ts)]=H at hn0 w0
 generalize A2 []=r0 at hn0
 have f0:∀K:AV→Aj,AM 0 (.ptr r0 0 0) K=K (.ptr r0 0 0):= λK=>id rfl
 have f2:∀K:AV→Aj,AM 2 (.ptr r0 0 0) K=K (.ptr r0 2 0):= λK=>id rfl
 have f3:∀K:AV→Aj,AM 3 (.ptr r0 0 0) K=K (.ptr r0 3 0):= λK=>id rfl
 have m0:∀K,Ar Ax (.ptr r0 0 0) H K=K (.agg (qa c)):= λK=>Fs (p:=0) rfl hn0 (show 2≤5 by decide)
 have m3:∀K,Ar Ax (.ptr r0 3 0) H K=K (.agg (qa r)):= λK=>Fs (p:=3) rfl hn0 (show 5≤5 by decide)
 have m2:∀K,Ar A7 (.ptr r0 2 0) H K=K (FC ts):= λK=>AP (p:=2) rfl hn0 (show 2<5 by decide)
 have hw:∀H K,Ah (rt (L+20) (n+41)) KT [.v (.int .i64 0)] H K=K (.agg [S [48],S [49]]):= λH K=>A6o (z:=0) (n:=n+1) (by decide) (by decide) H K
 rw[f0,m0,A1n (n:=n+1) (by omega) (by omega),f3,m3,A1n (n:=n+1) (by omega) (by omega)]
 have h1:∀K,Ah (rt (L+20) (n+41)) OO [.agg (qa r),.agg [S [48],S [49]]] H K=K (I (if r=0 then 0 else 1)):= λK=>C1S (n:=n+1) (by omega) (by omega) H K
 have h2:∀K,Go.Abs.Ak Ab .lss (I (if r=0 then 0 else 1)) (.v (.int .i64 0)) K=K (Bo false):= λK=>FE (by split<;>omega)
 have h3:∀K,Go.Abs.Ak Ab .gtr (I (ts.length:Int)) (.v (.int .i64 64)) K=K (Bo false):= λK=>by rw[DM,decide_eq_false (by omega)]
 simp only[ntT,BN,Cz,gT,WV,f3,m3,hw,h1,h2,f2,m2,O0,h3,BX]
 rw[Bz]
 have e0:(AV.v (.int .i64 0))=I ((0:Nat):Int):=rfl
 rw[e0]
 exact C4z (n:=n) ht (λH=>hK _ _ (λb=>⟨false,λK=>by kernel_rfl⟩)) (L+20) 0 H (by omega) (by omega) hn0 w0
end
end
section
variable {L n:Nat}
theorem B6b {z:Int} (h1:0≤z) (h2:z<9):PS (rt (L+20) (n+40)) Kc [.agg (qa z)] (I (if z=0 then 0 else 1)):=
 B1j (args:= λz=>[.agg (qa z)]) (val:= λz=>I (if z=0 then 0 else 1)) (a:=0) (b:=9) (λz H K=>by kernel_rfl) (by kernel_rfl) h1 h2
theorem B6a {z:Int} (h1: -8≤z) (h2:z<9):PS (rt (L+20) (n+40)) Je [.agg (qa z)] (Bo (decide (z=0))):=
 B1j (args:= λz=>[.agg (qa z)]) (val:= λz=>Bo (decide (z=0))) (a:= -8) (b:=9) (λz H K=>by kernel_rfl) (by kernel_rfl) h1 h2
end
end Go.Abs
end
