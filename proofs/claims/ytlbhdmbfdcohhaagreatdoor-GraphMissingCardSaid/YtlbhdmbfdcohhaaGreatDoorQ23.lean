import Derived.Test.YtlbhdmbfdcohhaaGreatDoorQ22
set_option linter.all false
set_option maxHeartbeats 100000000
noncomputable section
namespace Go.Abs
open Go.RowKit Go.Proofs
set_option maxRecDepth 100000
section
variable {L n:Nat} {K:KV} {x:Al}
theorem A33 {ty:TI} {i:Nat} {K:AV→Al} (h0:0<i) (h:i<1000000000):Go.Abs.Ak ty .sub (I i) (.v (.int .i64 1)) K=K (I ((i-1:Nat):Int)):=by
 rw[GE,Ca (by omega) (by omega)]
 have:(i:Int)-1=((i-1:Nat):Int):=by omega
 rw[this]
theorem A9V {H:Hp} {r i e:Nat} {q:Bool} {l:List (List UInt8)} {K:AV→Al} (hl:Au H r=some (.cells q e (B5 l))) (h:i<l.length):Aq Ad (.ptr r i 0) H K=K (S l[i]):=by
 rw[AQ (p:=i) rfl hl (by rw[Fm];exact h),Mr h]
theorem A9X {r i m:Nat} {K:AV→Al} (h:i<m):Bv Ae (.sl 1 r 0 m) (I i) K=K (.ptr r i 0):=by
 rw[A4P rfl (by omega) (by omega),Xj]
theorem C2g {R:Rt} {k6:AV→Hp→Al} {l:List (List UInt8)} {H:Hp} {r e:Nat} {q:Bool} (hl:Au H r=some (.cells q e (B5 l))) (hn:l.Nodup) (hb:l.length<1000000000):∀(f i:Nat) (v w:AV),1≤i→i≤l.length→l.length-i<f→
 Db (L+20) R K k6 f (.sl 1 r 0 l.length) (I i) v w H=k6 (.sl 1 r 0 l.length) H:=by
 intro f
 induction f with
 |zero=>intro i v w _ _ h;omega
 |succ f ih=>
  intro i v w h1 hi hf
  rw[JW]
  unfold Es Ar
  have el:∀K,AN Ae (.sl 1 r 0 l.length) K=K (I l.length):= λK=>id rfl
  rw[el]
  by_cases h:i<l.length
  ·rw[Ge (by omega),D3,A9X h,BH,A9V hl h,BH,A33 (by omega) (by omega),BH,A9X (by omega),BH,A9V hl (by omega),BH,JR]
   have hne:l[i]≠l[i-1]:= λe=>by
    have:=(List.getElem_inj (h₀:=h) (h₁:=by omega) hn).1 e
    omega
   rw[decide_eq_false hne,BH,B9,DS (by omega)]
   exact ih (i+1) _ _ (by omega) (by omega) (by omega)
  ·rw[Gf (by omega),B9]
theorem B0u {l:List (List UInt8)} {H:Hp} {r e:Nat} {q:Bool} (hl:Au H r=some (.cells q e (B5 l))) (hn:l.Nodup) (hb:l.length<1000000000) (hL:l.length<L):
 (rt (L+20) (n+1)).call Dk [.sl 1 r 0 l.length] H K=K (.sl 1 r 0 l.length) H:=by
 rw[Ko]
 unfold E3 Ar
 simp only[Cl]
 have el:∀K,AN Ae (.sl 1 r 0 l.length) K=K (I l.length):= λK=>id rfl
 rw[el]
 by_cases h:l.length<2
 ·rw[Ge (by omega),D3]
 ·rw[Gf (by omega),B9]
  have e1:(AV.v (.int .i64 1))=I ((1:Nat):Int):=rfl
  rw[e1,C2g hl hn hb _ 1 _ _ (by omega) (by omega) (by omega)]
theorem C2Z {s:List UInt8} (h:s.length=32):PS (rt (L+20) (n+1)) Di [S s] (Bo false):=by
 refine CS.ps (λK hK=> ?_) (λH=> λK=>by kernel_rfl)
 rw[MD]
 unfold FR Ar
 rw[MS rfl,h,Hu]
 exact hK _ _ (λb=>⟨false,λK=>by kernel_rfl⟩)
abbrev B4M:AV:= .fn (.func Di) [] []
theorem C1B {k4:Hp→Al} {ps:List (List UInt8)} {H:Hp} (hb:ps.length<1000000000) (hl:∀s∈ps,s.length=32):∀(f i:Nat),i≤ps.length→ps.length-i<f→
 CG (L+20) (rt (L+20) (n+1)) K k4 f (Ls ps) B4M (I ps.length) (I i) H=k4 H:=by
 intro f
 induction f with
 |zero=>intro i _ h;omega
 |succ f ih=>
  intro i hi hf
  rw[Jy]
  unfold DT Ar
  by_cases h:i<ps.length
  ·rw[Ge (by omega),D3,PA h,ET]
   have ez:∀K,Eb (E (L+20)) (rt (L+20) (n+1)) B4M [S ps[i]] H K=Ah (rt (L+20) (n+1)) Di [S ps[i]] H λv=>K v H:= λK=>by kernel_rfl
   rw[ez,C2Z (hl _ (Ow h)),B9,DS (by omega)]
   exact ih (i+1) (by omega) (by omega)
  ·rw[Gf (by omega),B9]
theorem B2n {ps:List (List UInt8)} (hb:ps.length<1000000000) (hL:ps.length<L) (hl:∀s∈ps,s.length=32):CS (rt (L+20) (n+3)) C7 [Ls ps,B4M] (Bo false):=by
 intro K hK
 rw[IU]
 unfold D7 Ar
 have hi:CS (rt (L+20) (n+2)) Eg [Ls ps,B4M] (I (-1)):=by
  intro K hK
  rw[JN]
  unfold Ee Ar
  simp only[Cl]
  have e0:(AV.v (.int .i64 0))=I ((0:Nat):Int):=rfl
  rw[Np,e0,C1B hb hl _ 0 (by omega) (by omega)]
  exact hK _ _ (λb=>⟨false,λK=>by kernel_rfl⟩)
 rw[Be (q:=false) hi (λK=>by kernel_rfl),LV]
 exact hK _ _ (λb=>⟨false,λK=>by kernel_rfl⟩)
theorem HP {R:Rt} {f:Nat} {args args':List AV} {v:AV} {H:Hp} {K:AV→Al} (hc:∀K:KV,(∀v0 H0,(∃q,Fx true depth v0 v H0 q)→K v0 H0=some (v,[]))→R.call f args' [] K=some (v,[])) (ha:PH true depth args args' H false):Ah R f args H K=K v:=by
 unfold Ah
 rw[ha]
 have:=hc (λv0 H'=>IZ (!false) H' depth v0 λ_ v'=>some (v',[])) (λv0 H0 h=>by
  obtain⟨q',h'⟩:=h
  exact h' _)
 rw[this]
 rfl
theorem A2W {ps:List (List UInt8)} (hn:ps.Nodup) (h0:1≤ps.length) (hb:ps.length≤6) (hL:10<L) (hl:∀s∈ps,s.length=32):
 CS (rt (L+20) (n+6)) F1 [Ls ps] (Bo true):=by
 intro K hK
 rw[Pi]
 unfold HE AU Ar CH
 have hv:∀K,Ah (rt (L+20) (n+5)) EM [Ls ps] [] K=K (B2p ps):= λK=>by
  refine HP (args':=[Ls ps]) (λK hK=> ?_) (λK=>by kernel_rfl)
  rw[KH]
  unfold EE
  rw[C28]
  exact hK _ _ ⟨true,λK=>by kernel_rfl⟩
 rw[hv]
 refine B2e (n:=n) (by omega) (by omega) (by omega) F3 λv H hs=> ?_
 have hp:=(G6 ps).length_eq
 rcases hs.sl with⟨_,h,_⟩|⟨r,q,rfl,hr,hc⟩
 ·omega
 rw[Np,VU (n:=n+4) (by omega) (by omega)]
 have g:∀(x:Bool→Al),gdV true (Bo true) x=x true:= λx=>id rfl
 have c:∀{v:AV} {H:Hp} {K:KV},DK (some (v,H)) K=K v H:=id rfl
 have pk:∀{a b:AV} {K:AV→Al},AG (Bo true) a b K=K a:=id rfl
 have nt:∀{K:AV→Al},F2 .not (Bo false) K=K (Bo true):=id rfl
 simp only[g,c]
 have hb2:∀K,Ah (rt (L+20) (n+5)) C7 [Ls ps,B4M] H K=K (Bo false):= λK=>Be (q:=false) (B2n (n:=n+2) (by omega) (by omega) hl) (λK=>by kernel_rfl)
 have el:∀m K,AN Ae (.sl 1 r 0 m) K=K (I m):= λm K=>id rfl
 have hcm:∀K,(rt (L+20) (n+5)).call Dk [.sl 1 r 0 ps.length] H K=K (.sl 1 r 0 ps.length) H:= λK=>by
  have:=B0u (K:=K) (L:=L) (n:=n+4) hr ((G6 ps).nodup_iff.2 hn) (by omega) (by omega)
  rw[hp] at this
  exact this
 simp only[hb2,nt,c,pk,g,hcm,el,Np,Dy,hp,decide_true]
 exact hK _ _ (λb=>⟨false,λK=>by cases b<;>kernel_rfl⟩)
end
def dig (k:Nat):List UInt8:=if k<10 then[UInt8.ofNat (48+k)] else[UInt8.ofNat (48+k/10),UInt8.ofNat (48+k%10)]
def dec (z:Int):List UInt8:=if z<0 then 45::dig z.natAbs else dig z.natAbs
def qn (z:Int):List UInt8:=dec (if z%4=0 then z/4 else if z%2=0 then z/2 else z)
def qd (z:Int):List UInt8:=if z%4=0 then[49] else if z%2=0 then[50] else[52]
abbrev qa (z:Int):List AV:=[S (qn z),S (qd z)]
theorem B48 {p:Int→Bool} {a b:Int} (h:((List.range (b-a).toNat).all λk=>p ((k:Int)+a))=true) {z:Int} (h1:a≤z) (h2:z<b):p z=true:=by
 have:=Hv.1 h (z-a).toNat (IL.2 (by omega))
 have e:(((z-a).toNat:Nat):Int)+a=z:=by omega
 simp only[e] at this
 exact this
theorem B0L {L m f:Nat} {args:Int→List AV} {val:Int→AV} {a b:Int} (hf:∀z H,PH true depth (args z) (args z) H false) (h:((List.range (b-a).toNat).all λk=>HN (AW (C4 (rt L m) f (args ((k:Int)+a))) (val ((k:Int)+a))))=true) {z:Int} (h1:a≤z) (h2:z<b):PS (rt L m) f (args z) (val z):=
 Bu (hf z) (B48 (p:= λz=>HN (AW (C4 (rt L m) f (args z)) (val z))) h h1 h2)
theorem T3 {z:Int} (h1: -80≤z) (h2:z<81):(qn z).length<4:=by
 have:=B48 (p:= λz=>decide ((qn z).length<4)) (a:= -80) (b:=81) (by kernel_rfl) h1 h2
 simpa using this
theorem T4 (z:Int):(qd z).length=1:=by unfold qd;split<;>(try split)<;>rfl
theorem C3F {z:Int} (h1: -80≤z) (h2:z<81) (h:z≠0):qn z≠[48]:=by
 have:=B48 (p:= λz=>decide (z=0∨qn z≠[48])) (a:= -80) (b:=81) (by kernel_rfl) h1 h2
 simpa [h] using this
section
variable {L n:Nat}
theorem B35 {z:Int} (h1: -80≤z) (h2:z<81):PS (rt (L+20) (n+40)) EP [I z,I 4] (.tup [.agg (qa z),I 0]):=
 B0L (args:= λz=>[I z,I 4]) (val:= λz=> .tup [.agg (qa z),I 0]) (a:= -80) (b:=81) (λz H K=>by kernel_rfl) (by kernel_rfl) h1 h2
theorem A0I {z:Int} (h1: -80≤z) (h2:z<81):PS (rt (L+20) (n+40)) Cz [.agg (qa z)] (Bo true):=
 B0L (args:= λz=>[.agg (qa z)]) (val:= λz=>Bo true) (a:= -80) (b:=81) (λz H K=>by kernel_rfl) (by kernel_rfl) h1 h2
theorem C0Y {z:Int} (h1:0≤z) (h2:z<9):PS (rt (L+20) (n+40)) NX [.agg (qa z),.agg [S [48],S [49]]] (I (if z=0 then 0 else 1)):=
 B0L (args:= λz=>[.agg (qa z),.agg [S [48],S [49]]]) (val:= λz=>I (if z=0 then 0 else 1)) (a:=0) (b:=9) (λz H K=>by kernel_rfl) (by kernel_rfl) h1 h2
theorem A5Q {z:Int} (h1:0≤z) (h2:z<1):PS (rt (L+20) (n+40)) Ku [I z] (.agg [S [48],S [49]]):=
 B0L (args:= λz=>[I z]) (val:= λz=> .agg [S [48],S [49]]) (a:=0) (b:=1) (λz H K=>by kernel_rfl) (by kernel_rfl) h1 h2
end
section
variable {L n:Nat}
theorem B44 {α:Type} (f:α→List AV) (w:Nat) (hf:∀x,(f x).length=w):∀l:List α,(l.flatMap f).length=l.length*w:=by
 intro l
 induction l with
 |nil=>simp
 |cons a l ih=>simp[ih,hf,l19,Nat.add_comm]
theorem A1B {α:Type} (f:α→List AV) (w:Nat) (hf:∀x,(f x).length=w):∀(l:List α) (i:Nat) (h:i<l.length),((l.flatMap f).drop (i*w)).take w=f l[i]:=by
 intro l
 induction l with
 |nil=>intro i h;simp at h
 |cons a l ih=>
  intro i h
  cases i with
  |zero=>
   simp only[l00,Nat.zero_mul,l1n,List.getElem_cons_zero]
   rw[List.take_append_of_le_length (by rw[hf];omega),l1z (by rw[hf];omega)]
  |succ i=>
   simp only[l00,List.getElem_cons_succ]
   have:(i+1)*w=(f a).length+i*w:=by rw[hf,l19];omega
   rw[this,List.drop_append,List.drop_of_length_le (by omega),List.nil_append,Nat.add_sub_cancel_left]
   exact ih i (by simpa using h)
theorem A1P {α:Type} {t:TI} {e w:Nat} {f:α→List AV} {l:List α} {i:Nat} {K:AV→Al} (hd:t.d= .slice e w) (hf:∀x,(f x).length=w) (h:i<l.length):Bv t (.list l.length (l.flatMap f)) (I i) K=K (.iptr (f l[i])):=by
 have e1:Bv t (.list l.length (l.flatMap f)) (I (i:Int)) K=iN (i:Int) λm=>ck (Nat.blt m l.length) (Po w (Dg (Nat.mul m w) (l.flatMap f)) λc=>K (.iptr c)):=by
  obtain⟨a,b,d,z⟩:=t;simp only at hd;subst hd;rfl
 rw[e1,J6,Ct,Kt]
 have h3:Nat.blt i l.length=true:=by rw[TU];exact h
 rw[h3]
 show K (.iptr (((l.flatMap f).drop (i*w)).take w))=_
 rw[A1B f w hf l i h]
theorem EZ {t:TI} {H:Hp} {r p e:Nat} {q:Bool} {cs:List AV} {K:AV→Al} (h:t.d.isAgg=true) (hl:Au H r=some (.cells q e cs)) (hp:p+t.size≤cs.length):Aq t (.ptr r p 0) H K=K (.agg ((cs.drop p).take t.size)):=by
 have:Aq t (.ptr r p 0) H K=Ks H r λx=>Ma x λ_ cs=>@Bool.rec (λ_=>Al) (hdK (Dg (Nat.add p 0) cs) K) (FU t.size (Dg (Nat.add p 0) cs) λc=>K (.agg c)) t.d.isAgg:=rfl
 rw[this,h,Cm hl]
 show FU t.size (Dg p cs) _=_
 rw[Ct,MM _ _ _ (by simp;omega)]
abbrev ZB:=List (Int×Int)
def MX (t:Int×Int):List AV:=[I t.1,S (qn t.2),S (qd t.2)]
def Fw (ts:ZB):AV:=match ts with
 |[]=>AM
 |t::ts=> .list (t::ts).length ((t::ts).flatMap MX)
structure TmsOk (ts:ZB):Prop where
 len:ts.length≤6
 rng:∀t∈ts,1≤t.1∧t.1≤100∧ -8≤t.2∧t.2≤8∧t.2≠0
 asc:ts.Pairwise λa b=>a.1<b.1
theorem F4 (ts:ZB):Sl (Fw ts):=by
 cases ts with
 |nil=>exact .inl rfl
 |cons t ts=>exact .inr ⟨_,_,rfl⟩
theorem NI {ts:ZB} {K:AV→Al}:AN A5 (Fw ts) K=K (I ts.length):=by cases ts<;>exact id rfl
theorem B5N {ts:ZB} {i:Nat} (h:i<ts.length):Fw ts= .list ts.length (ts.flatMap MX):=by
 cases ts with
 |nil=>simp at h
 |cons t ts=>rfl
theorem SN {ts:ZB} {i:Nat} {K:AV→Al} (h:i<ts.length):Bv A5 (Fw ts) (I i) K=K (.iptr (MX ts[i])):=by
 rw[B5N h]
 exact A1P (f:=MX) rfl (λ_=>rfl) h
theorem C6j {a b c d:List UInt8} {K:AV→Al}:Go.Abs.Uc O4 .eql (.agg [S a,S b]) (.agg [S c,S d]) K=K (Bo (decide (a=c)&&decide (b=d))):=by
 have e:Go.Abs.Uc O4 .eql (.agg [S a,S b]) (.agg [S c,S d]) K=(match(generalizing:=false) (some (eqB a c&&(eqB b d&&true)):Option Bool),BinOp.eql with
  |some q,.eql=>bB q K
  |some q,.neq=>bB (!q) K
  |_,_=>none):=rfl
 rw[e]
 show bB _ K=_
 rw[La,Pz,Pz,l1b]
 have h1:∀(x y:List UInt8),(x==y)=decide (x=y):= λx y=>by by_cases h:x=y<;>simp[h]
 rw[h1,h1]
section
variable {K:KV} {x:Al} {ca cb ra rb:List UInt8} {ts:ZB}
theorem gT {q:Bool} {y:Bool→Al}:gdV q (.v (.bool q)) y=y true:=by cases q<;>exact id rfl
theorem gTF {y:Bool→Al}:gdV true (.v (.bool false)) y=y false:=id rfl
theorem gFT {y:Bool→Al}:gdV false (.v (.bool true)) y=y false:=id rfl
theorem Ci {v:AV} {H:Hp} {K:KV}:DK (some (v,H)) K=K v H:=id rfl
theorem Vu {a b:AV} {K:AV→Al}:AG (.v (.bool true)) a b K=K a:=id rfl
theorem TB {a b:AV} {K:AV→Al}:AG (.v (.bool false)) a b K=K b:=id rfl
theorem ntT {K:AV→Al}:F2 .not (.v (.bool true)) K=K (Bo false):=id rfl
theorem ntF {K:AV→Al}:F2 .not (.v (.bool false)) K=K (Bo true):=id rfl
abbrev A6y (ca cb ra rb:List UInt8) (ts:ZB):Row:= .cells true Do [S ca,S cb,Fw ts,S ra,S rb]
theorem C3z {k37:Hp→Al} {r0:Nat} (ht:TmsOk ts) (hx:∀H,k37 H=x):∀(f i:Nat) (H:Hp),i≤ts.length→ts.length-i<f→Au H r0=some (A6y ca cb ra rb ts)→Wf H→
 Lq (L+20) (rt (L+20) (n+41)) K k37 f (.ptr r0 0 0) (I i) H=x:=by
 intro f
 induction f with
 |zero=>intro i H _ h;omega
 |succ f ih=>
  intro i H hi hf hl w
  have hb:=ht.len
  rw[Xz]
  unfold OQ AU Bw Ar E4 CH
  have f2:∀K:AV→Al,AL 2 (.ptr r0 0 0) K=K (.ptr r0 2 0):= λK=>id rfl
  have l2:∀K,Aq A5 (.ptr r0 2 0) H K=K (Fw ts):= λK=>AQ (p:=2) rfl hl (by simp)
  rw[f2,l2,NI]
  by_cases h:i<ts.length
  ·rw[Ge (by omega),D3,f2,l2,SN h]
   have hr:=ht.rng _ (Ow h)
   have lt:∀H K,Aq BG (.iptr (MX ts[i])) H K=K (.agg (MX ts[i])):= λH K=>id rfl
   rw[lt,Ba (cs:=[zI,zS,zS]) rfl]
   have hn0:=Ay (H:=H) (x:= .cells true AO [zI,zS,zS]) (by simp)
   rw[B0 (vs:=MX ts[i]) hn0 rfl rfl rfl]
   have hr1:=A9 (q:=true) (e:=AO) (cs:=MX ts[i]) hn0
   have hlt:=w.lt hl
   have hl1:Au (upd ((A3 H,Row.cells true AO [zI,zS,zS])::H) (A3 H) (.cells true AO (MX ts[i]))) r0=some (A6y ca cb ra rb ts):=by
    rw[Ap (by omega)];exact Bh hlt hl
   have w1:=BL (r:=A3 H) (y:= .cells true AO (MX ts[i])) (B3 (x:= .cells true AO [zI,zS,zS]) w)
   generalize upd ((A3 H,Row.cells true AO [zI,zS,zS])::H) (A3 H) (.cells true AO (MX ts[i]))=H1 at hr1 hl1 w1
   generalize A3 H=r at hr1
   have g1:∀K:AV→Al,AL 1 (.ptr r 0 0) K=K (.ptr r 1 0):= λK=>id rfl
   have g0:∀K:AV→Al,AL 0 (.ptr r 0 0) K=K (.ptr r 0 0):= λK=>id rfl
   have m1:∀K,Aq Ao (.ptr r 1 0) H1 K=K (.agg (qa ts[i].2)):= λK=>EZ (p:=1) rfl hr1 (show 3≤3 from NU _)
   have m0:∀K,Aq Ab (.ptr r 0 0) H1 K=K (I ts[i].1):= λK=>AQ (p:=0) rfl hr1 (show 0<3 by decide)
   have m2:∀K,Aq A5 (.ptr r0 2 0) H1 K=K (Fw ts):= λK=>AQ (p:=2) rfl hl1 (by simp)
   rw[g1,m1,A0I (n:=n+1) (by omega) (by omega)]
   have hq:=C3F (by omega) (by omega) hr.2.2.2.2
   have hw:∀H K,Ah (rt (L+20) (n+41)) Ku [.v (.int .i64 0)] H K=K (.agg [S [48],S [49]]):= λH K=>A5Q (z:=0) (n:=n+1) (by decide) (by decide) H K
   have i1:∀K,Go.Abs.Ak Ab .lss (I ts[i].1) (.v (.int .i64 1)) K=K (Bo false):= λK=>Gf (by omega)
   have i2:∀K,Go.Abs.Ak Ab .gtr (I ts[i].1) (.v (.int .i64 1000000)) K=K (Bo false):= λK=>by rw[Ey,decide_eq_false (by omega)]
   simp only[ntT,BH,gT,g1,m1,Ci,hw,C6j,hq,decide_false,Bool.false_and,TB,g0,m0,i1,i2]
   by_cases hi0:0<i
   ·have i3:∀K,Go.Abs.Ak Ab .gtr (I (i:Int)) (.v (.int .i64 0)) K=K (Bo true):= λK=>by rw[Ey,decide_eq_true (by omega)]
    have hi1:i-1<ts.length:=by omega
    have i5:∀K:AV→Al,AL 0 (.iptr (MX ts[i-1])) K=K (.iptr (MX ts[i-1])):= λK=>id rfl
    have i6:∀K,Aq Ab (.iptr (MX ts[i-1])) H1 K=K (I ts[i-1].1):= λK=>id rfl
    have hasc:ts[i-1].1<ts[i].1:=(l20.1 ht.asc) (i-1) i hi1 h (by omega)
    have i7:∀K,Go.Abs.Ak Ab .geq (I ts[i-1].1) (I ts[i].1) K=K (Bo false):= λK=>by rw[LV,decide_eq_false (by omega)]
    simp only[i3,BH,Ci,gT,f2,m2,A33 hi0 (by omega:i<1000000000),SN hi1,i5,i6,g0,m0,i7,Vu,TB]
    rw[B9,DS (by omega)]
    exact ih (i+1) H1 (by omega) (by omega) hl1 w1
   ·have i3:∀K,Go.Abs.Ak Ab .gtr (I (i:Int)) (.v (.int .i64 0)) K=K (Bo false):= λK=>by rw[Ey,decide_eq_false (by omega)]
    simp only[i3,BH,Ci,gT,gTF,Vu,TB]
    rw[B9,DS (by omega)]
    exact ih (i+1) H1 (by omega) (by omega) hl1 w1
  ·rw[Gf (by omega),B9]
   exact hx H
theorem A0M {c r:Int} (hc1: -80≤c) (hc2:c≤80) (hr1:0≤r) (hr2:r≤8) (hL:10<L) (ht:TmsOk ts):CS (rt (L+20) (n+42)) Gq [.agg (Va (qn c) (qd c) (Fw ts) (qn r) (qd r))] (Bo true):=by
 intro K hK
 have hb:=ht.len
 rw[Zf]
 unfold Qx Bw Ar E4 CH
 rw[Fa (by cases ts<;>rfl)]
 have hn0:=Ay (H:=[]) (x:=A6y (qn c) (qd c) (qn r) (qd r) ts) (by simp)
 have w0:Wf [(A3 [],A6y (qn c) (qd c) (qn r) (qd r) ts)]:=B3 F3
 generalize [(A3 [],A6y (qn c) (qd c) (qn r) (qd r) ts)]=H at hn0 w0
 generalize A3 []=r0 at hn0
 have f0:∀K:AV→Al,AL 0 (.ptr r0 0 0) K=K (.ptr r0 0 0):= λK=>id rfl
 have f2:∀K:AV→Al,AL 2 (.ptr r0 0 0) K=K (.ptr r0 2 0):= λK=>id rfl
 have f3:∀K:AV→Al,AL 3 (.ptr r0 0 0) K=K (.ptr r0 3 0):= λK=>id rfl
 have m0:∀K,Aq Ao (.ptr r0 0 0) H K=K (.agg (qa c)):= λK=>EZ (p:=0) rfl hn0 (show 2≤5 by decide)
 have m3:∀K,Aq Ao (.ptr r0 3 0) H K=K (.agg (qa r)):= λK=>EZ (p:=3) rfl hn0 (show 5≤5 by decide)
 have m2:∀K,Aq A5 (.ptr r0 2 0) H K=K (Fw ts):= λK=>AQ (p:=2) rfl hn0 (show 2<5 by decide)
 have hw:∀H K,Ah (rt (L+20) (n+41)) Ku [.v (.int .i64 0)] H K=K (.agg [S [48],S [49]]):= λH K=>A5Q (z:=0) (n:=n+1) (by decide) (by decide) H K
 rw[f0,m0,A0I (n:=n+1) (by omega) (by omega),f3,m3,A0I (n:=n+1) (by omega) (by omega)]
 have h1:∀K,Ah (rt (L+20) (n+41)) NX [.agg (qa r),.agg [S [48],S [49]]] H K=K (I (if r=0 then 0 else 1)):= λK=>C0Y (n:=n+1) (by omega) (by omega) H K
 have h2:∀K,Go.Abs.Ak Ab .lss (I (if r=0 then 0 else 1)) (.v (.int .i64 0)) K=K (Bo false):= λK=>Gf (by split<;>omega)
 have h3:∀K,Go.Abs.Ak Ab .gtr (I (ts.length:Int)) (.v (.int .i64 64)) K=K (Bo false):= λK=>by rw[Ey,decide_eq_false (by omega)]
 simp only[ntT,BH,Ci,gT,TB,f3,m3,hw,h1,h2,f2,m2,NI,h3,Cl]
 rw[B9]
 have e0:(AV.v (.int .i64 0))=I ((0:Nat):Int):=rfl
 rw[e0]
 exact C3z (n:=n) ht (λH=>hK _ _ (λb=>⟨false,λK=>by kernel_rfl⟩)) (L+20) 0 H (by omega) (by omega) hn0 w0
end
end
section
variable {L n:Nat}
theorem B5x {z:Int} (h1:0≤z) (h2:z<9):PS (rt (L+20) (n+40)) J9 [.agg (qa z)] (I (if z=0 then 0 else 1)):=
 B0L (args:= λz=>[.agg (qa z)]) (val:= λz=>I (if z=0 then 0 else 1)) (a:=0) (b:=9) (λz H K=>by kernel_rfl) (by kernel_rfl) h1 h2
theorem B5w {z:Int} (h1: -8≤z) (h2:z<9):PS (rt (L+20) (n+40)) I4 [.agg (qa z)] (Bo (decide (z=0))):=
 B0L (args:= λz=>[.agg (qa z)]) (val:= λz=>Bo (decide (z=0))) (a:= -8) (b:=9) (λz H K=>by kernel_rfl) (by kernel_rfl) h1 h2
end
end Go.Abs
end
