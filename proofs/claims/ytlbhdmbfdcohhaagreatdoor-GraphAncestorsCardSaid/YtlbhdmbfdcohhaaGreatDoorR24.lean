import Derived.Test.YtlbhdmbfdcohhaaGreatDoorR23
set_option linter.all false
set_option maxHeartbeats 100000000
noncomputable section
namespace Go.Abs
open Go.RowKit Go.Proofs
set_option maxRecDepth 100000
section
variable {L n:Nat} {K:KV} {x:Al}
theorem A3f {ty:TI} {i:Nat} {K:AV→Al} (h0:0<i) (h:i<1000000000):Go.Abs.Ak ty .sub (I i) (.v (.int .i64 1)) K=K (I ((i-1:Nat):Int)):=by
 rw[GE,Cb (by omega) (by omega)]
 have:(i:Int)-1=((i-1:Nat):Int):=by omega
 rw[this]
theorem B09 {H:Hp} {r i e:Nat} {q:Bool} {l:List (List UInt8)} {K:AV→Al} (hl:Ax H r=some (.cells q e (Bn l))) (h:i<l.length):Aq Ae (.ptr r i 0) H K=K (S l[i]):=by
 rw[AY (p:=i) rfl hl (by rw[DJ];exact h),Mx h]
theorem B0b {r i m:Nat} {K:AV→Al} (h:i<m):B0 Ad (.sl 1 r 0 m) (I i) K=K (.ptr r i 0):=by
 rw[A4Z rfl (by omega) (by omega),Xs]
theorem C2C {R:Rt} {k6:AV→Hp→Al} {l:List (List UInt8)} {H:Hp} {r e:Nat} {q:Bool} (hl:Ax H r=some (.cells q e (Bn l))) (hn:l.Nodup) (hb:l.length<1000000000):∀(f i:Nat) (v w:AV),1≤i→i≤l.length→l.length-i<f→
 Dd (L+20) R K k6 f (.sl 1 r 0 l.length) (I i) v w H=k6 (.sl 1 r 0 l.length) H:=by
 intro f
 induction f with
 |zero=>intro i v w _ _ h;omega
 |succ f ih=>
  intro i v w h1 hi hf
  rw[JZ]
  unfold Ep Ar
  have el:∀K,AP Ad (.sl 1 r 0 l.length) K=K (I l.length):= λK=>id rfl
  rw[el]
  by_cases h:i<l.length
  ·rw[FW (by omega),Dn,B0b h,BJ,B09 hl h,BJ,A3f (by omega) (by omega),BJ,B0b (by omega),BJ,B09 hl (by omega),BJ,Nb]
   have hne:l[i]≠l[i-1]:= λe=>by
    have:=(List.getElem_inj (h₀:=h) (h₁:=by omega) hn).1 e
    omega
   rw[decide_eq_false hne,BJ,BD,DS (by omega)]
   exact ih (i+1) _ _ (by omega) (by omega) (by omega)
  ·rw[FX (by omega),BD]
theorem B0I {l:List (List UInt8)} {H:Hp} {r e:Nat} {q:Bool} (hl:Ax H r=some (.cells q e (Bn l))) (hn:l.Nodup) (hb:l.length<1000000000) (hL:l.length<L):
 (rt (L+20) (n+1)).call Dl [.sl 1 r 0 l.length] H K=K (.sl 1 r 0 l.length) H:=by
 rw[Kt]
 unfold E1 Ar
 simp only[Cp]
 have el:∀K,AP Ad (.sl 1 r 0 l.length) K=K (I l.length):= λK=>id rfl
 rw[el]
 by_cases h:l.length<2
 ·rw[FW (by omega),Dn]
 ·rw[FX (by omega),BD]
  have e1:(AV.v (.int .i64 1))=I ((1:Nat):Int):=rfl
  rw[e1,C2C hl hn hb _ 1 _ _ (by omega) (by omega) (by omega)]
theorem C3j {s:List UInt8} (h:s.length=32):PS (rt (L+20) (n+1)) Dj [S s] (Bo false):=by
 refine CS.ps (λK hK=> ?_) (λH=> λK=>by kernel_rfl)
 rw[MI]
 unfold FQ Ar
 rw[MY rfl,h,GF]
 exact hK _ _ (λb=>⟨false,λK=>by kernel_rfl⟩)
abbrev B4X:AV:= .fn (.func Dj) [] []
theorem C22 {k4:Hp→Al} {ps:List (List UInt8)} {H:Hp} (hb:ps.length<1000000000) (hl:∀s∈ps,s.length=32):∀(f i:Nat),i≤ps.length→ps.length-i<f→
 CJ (L+20) (rt (L+20) (n+1)) K k4 f (Ls ps) B4X (I ps.length) (I i) H=k4 H:=by
 intro f
 induction f with
 |zero=>intro i _ h;omega
 |succ f ih=>
  intro i hi hf
  rw[Jz]
  unfold DT Ar
  by_cases h:i<ps.length
  ·rw[FW (by omega),Dn,PT h,FU]
   have ez:∀K,Eo (E (L+20)) (rt (L+20) (n+1)) B4X [S ps[i]] H K=Ah (rt (L+20) (n+1)) Dj [S ps[i]] H λv=>K v H:= λK=>by kernel_rfl
   rw[ez,C3j (hl _ (QS h)),BD,DS (by omega)]
   exact ih (i+1) (by omega) (by omega)
  ·rw[FX (by omega),BD]
theorem B2z {ps:List (List UInt8)} (hb:ps.length<1000000000) (hL:ps.length<L) (hl:∀s∈ps,s.length=32):CS (rt (L+20) (n+3)) CD [Ls ps,B4X] (Bo false):=by
 intro K hK
 rw[Jc]
 unfold D7 Ar
 have hi:CS (rt (L+20) (n+2)) Ee [Ls ps,B4X] (I (-1)):=by
  intro K hK
  rw[JO]
  unfold Eb Ar
  simp only[Cp]
  have e0:(AV.v (.int .i64 0))=I ((0:Nat):Int):=rfl
  rw[Nv,e0,C22 hb hl _ 0 (by omega) (by omega)]
  exact hK _ _ (λb=>⟨false,λK=>by kernel_rfl⟩)
 rw[Bc (q:=false) hi (λK=>by kernel_rfl),Me]
 exact hK _ _ (λb=>⟨false,λK=>by kernel_rfl⟩)
theorem IK {R:Rt} {f:Nat} {args args':List AV} {v:AV} {H:Hp} {K:AV→Al} (hc:∀K:KV,(∀v0 H0,(∃q,Fx true depth v0 v H0 q)→K v0 H0=some (v,[]))→R.call f args' [] K=some (v,[])) (ha:OM true depth args args' H false):Ah R f args H K=K v:=by
 unfold Ah
 rw[ha]
 have:=hc (λv0 H'=>Jg (!false) H' depth v0 λ_ v'=>some (v',[])) (λv0 H0 h=>by
  obtain⟨q',h'⟩:=h
  exact h' _)
 rw[this]
 rfl
theorem A39 {ps:List (List UInt8)} (hn:ps.Nodup) (h0:1≤ps.length) (hb:ps.length≤6) (hL:10<L) (hl:∀s∈ps,s.length=32):
 CS (rt (L+20) (n+6)) Fu [Ls ps] (Bo true):=by
 intro K hK
 rw[Pz]
 unfold HI Ba Ar CK
 have hv:∀K,Ah (rt (L+20) (n+5)) EH [Ls ps] [] K=K (B2B ps):= λK=>by
  refine IK (args':=[Ls ps]) (λK hK=> ?_) (λK=>by kernel_rfl)
  rw[KJ]
  unfold EA
  rw[C2v]
  exact hK _ _ ⟨true,λK=>by kernel_rfl⟩
 rw[hv]
 refine B2q (n:=n) (by omega) (by omega) (by omega) Fv λv H hs=> ?_
 have hp:=(G7 ps).length_eq
 rcases hs.sl with⟨_,h,_⟩|⟨r,q,rfl,hr,hc⟩
 ·omega
 rw[Nv,Wd (n:=n+4) (by omega) (by omega)]
 have g:∀(x:Bool→Al),gdV true (Bo true) x=x true:= λx=>id rfl
 have c:∀{v:AV} {H:Hp} {K:KV},DW (some (v,H)) K=K v H:=id rfl
 have pk:∀{a b:AV} {K:AV→Al},AJ (Bo true) a b K=K a:=id rfl
 have nt:∀{K:AV→Al},F8 .not (Bo false) K=K (Bo true):=id rfl
 simp only[g,c]
 have hb2:∀K,Ah (rt (L+20) (n+5)) CD [Ls ps,B4X] H K=K (Bo false):= λK=>Bc (q:=false) (B2z (n:=n+2) (by omega) (by omega) hl) (λK=>by kernel_rfl)
 have el:∀m K,AP Ad (.sl 1 r 0 m) K=K (I m):= λm K=>id rfl
 have hcm:∀K,(rt (L+20) (n+5)).call Dl [.sl 1 r 0 ps.length] H K=K (.sl 1 r 0 ps.length) H:= λK=>by
  have:=B0I (K:=K) (L:=L) (n:=n+4) hr ((G7 ps).nodup_iff.2 hn) (by omega) (by omega)
  rw[hp] at this
  exact this
 simp only[hb2,nt,c,pk,g,hcm,el,Nv,Dz,hp,decide_true]
 exact hK _ _ (λb=>⟨false,λK=>by cases b<;>kernel_rfl⟩)
end
def dig (k:Nat):List UInt8:=if k<10 then[UInt8.ofNat (48+k)] else[UInt8.ofNat (48+k/10),UInt8.ofNat (48+k%10)]
def dec (z:Int):List UInt8:=if z<0 then 45::dig z.natAbs else dig z.natAbs
def qn (z:Int):List UInt8:=dec (if z%4=0 then z/4 else if z%2=0 then z/2 else z)
def qd (z:Int):List UInt8:=if z%4=0 then[49] else if z%2=0 then[50] else[52]
abbrev qa (z:Int):List AV:=[S (qn z),S (qd z)]
theorem B4i {p:Int→Bool} {a b:Int} (h:((List.range (b-a).toNat).all λk=>p ((k:Int)+a))=true) {z:Int} (h1:a≤z) (h2:z<b):p z=true:=by
 have:=Hl.1 h (z-a).toNat (IV.2 (by omega))
 have e:(((z-a).toNat:Nat):Int)+a=z:=by omega
 simp only[e] at this
 exact this
theorem B11 {L m f:Nat} {args:Int→List AV} {val:Int→AV} {a b:Int} (hf:∀z H,OM true depth (args z) (args z) H false) (h:((List.range (b-a).toNat).all λk=>HQ (AZ (C9 (rt L m) f (args ((k:Int)+a))) (val ((k:Int)+a))))=true) {z:Int} (h1:a≤z) (h2:z<b):PS (rt L m) f (args z) (val z):=
 B2 (hf z) (B4i (p:= λz=>HQ (AZ (C9 (rt L m) f (args z)) (val z))) h h1 h2)
theorem TN {z:Int} (h1: -80≤z) (h2:z<81):(qn z).length<4:=by
 have:=B4i (p:= λz=>decide ((qn z).length<4)) (a:= -80) (b:=81) (by kernel_rfl) h1 h2
 simpa using this
theorem TO (z:Int):(qd z).length=1:=by unfold qd;split<;>(try split)<;>rfl
theorem C3Y {z:Int} (h1: -80≤z) (h2:z<81) (h:z≠0):qn z≠[48]:=by
 have:=B4i (p:= λz=>decide (z=0∨qn z≠[48])) (a:= -80) (b:=81) (by kernel_rfl) h1 h2
 simpa [h] using this
section
variable {L n:Nat}
theorem B3i {z:Int} (h1: -80≤z) (h2:z<81):PS (rt (L+20) (n+40)) EK [I z,I 4] (.tup [.agg (qa z),I 0]):=
 B11 (args:= λz=>[I z,I 4]) (val:= λz=> .tup [.agg (qa z),I 0]) (a:= -80) (b:=81) (λz H K=>by kernel_rfl) (by kernel_rfl) h1 h2
theorem A0X {z:Int} (h1: -80≤z) (h2:z<81):PS (rt (L+20) (n+40)) C7 [.agg (qa z)] (Bo true):=
 B11 (args:= λz=>[.agg (qa z)]) (val:= λz=>Bo true) (a:= -80) (b:=81) (λz H K=>by kernel_rfl) (by kernel_rfl) h1 h2
theorem C1m {z:Int} (h1:0≤z) (h2:z<9):PS (rt (L+20) (n+40)) Oi [.agg (qa z),.agg [S [48],S [49]]] (I (if z=0 then 0 else 1)):=
 B11 (args:= λz=>[.agg (qa z),.agg [S [48],S [49]]]) (val:= λz=>I (if z=0 then 0 else 1)) (a:=0) (b:=9) (λz H K=>by kernel_rfl) (by kernel_rfl) h1 h2
theorem A5Y {z:Int} (h1:0≤z) (h2:z<1):PS (rt (L+20) (n+40)) Kw [I z] (.agg [S [48],S [49]]):=
 B11 (args:= λz=>[I z]) (val:= λz=> .agg [S [48],S [49]]) (a:=0) (b:=1) (λz H K=>by kernel_rfl) (by kernel_rfl) h1 h2
end
section
variable {L n:Nat}
theorem B4f {α:Type} (f:α→List AV) (w:Nat) (hf:∀x,(f x).length=w):∀l:List α,(l.flatMap f).length=l.length*w:=by
 intro l
 induction l with
 |nil=>simp
 |cons a l ih=>simp[ih,hf,l19,Nat.add_comm]
theorem A1N {α:Type} (f:α→List AV) (w:Nat) (hf:∀x,(f x).length=w):∀(l:List α) (i:Nat) (h:i<l.length),((l.flatMap f).drop (i*w)).take w=f l[i]:=by
 intro l
 induction l with
 |nil=>intro i h;simp at h
 |cons a l ih=>
  intro i h
  cases i with
  |zero=>
   simp only[l00,Nat.zero_mul,l1n,List.getElem_cons_zero]
   rw[List.take_append_of_le_length (by rw[hf];omega),l1z (by rw[hf];omega)]
  |succ i=>
   simp only[l00,List.getElem_cons_succ]
   have:(i+1)*w=(f a).length+i*w:=by rw[hf,l19];omega
   rw[this,List.drop_append,List.drop_of_length_le (by omega),List.nil_append,Nat.add_sub_cancel_left]
   exact ih i (by simpa using h)
theorem A1Z {α:Type} {t:TI} {e w:Nat} {f:α→List AV} {l:List α} {i:Nat} {K:AV→Al} (hd:t.d= .slice e w) (hf:∀x,(f x).length=w) (h:i<l.length):B0 t (.list l.length (l.flatMap f)) (I i) K=K (.iptr (f l[i])):=by
 have e1:B0 t (.list l.length (l.flatMap f)) (I (i:Int)) K=iN (i:Int) λm=>ck (Nat.blt m l.length) (Ti w (Dp (Nat.mul m w) (l.flatMap f)) λc=>K (.iptr c)):=by
  obtain⟨a,b,d,z⟩:=t;simp only at hd;subst hd;rfl
 rw[e1,JW,C8,NH]
 have h3:Nat.blt i l.length=true:=by rw[Uk];exact h
 rw[h3]
 show K (.iptr (((l.flatMap f).drop (i*w)).take w))=_
 rw[A1N f w hf l i h]
theorem EX {t:TI} {H:Hp} {r p e:Nat} {q:Bool} {cs:List AV} {K:AV→Al} (h:t.d.isAgg=true) (hl:Ax H r=some (.cells q e cs)) (hp:p+t.size≤cs.length):Aq t (.ptr r p 0) H K=K (.agg ((cs.drop p).take t.size)):=by
 have:Aq t (.ptr r p 0) H K=Kj H r λx=>KF x λ_ cs=>@Bool.rec (λ_=>Al) (hdK (Dp (Nat.add p 0) cs) K) (FT t.size (Dp (Nat.add p 0) cs) λc=>K (.agg c)) t.d.isAgg:=rfl
 rw[this,h,Cl hl]
 show FT t.size (Dp p cs) _=_
 rw[C8,MS _ _ _ (by simp;omega)]
abbrev ZQ:=List (Int×Int)
def Nf (t:Int×Int):List AV:=[I t.1,S (qn t.2),S (qd t.2)]
def Fq (ts:ZQ):AV:=match ts with
 |[]=>AO
 |t::ts=> .list (t::ts).length ((t::ts).flatMap Nf)
structure TmsOk (ts:ZQ):Prop where
 len:ts.length≤6
 rng:∀t∈ts,1≤t.1∧t.1≤100∧ -8≤t.2∧t.2≤8∧t.2≠0
 asc:ts.Pairwise λa b=>a.1<b.1
theorem Fw (ts:ZQ):Sl (Fq ts):=by
 cases ts with
 |nil=>exact .inl rfl
 |cons t ts=>exact .inr ⟨_,_,rfl⟩
theorem NS {ts:ZQ} {K:AV→Al}:AP A8 (Fq ts) K=K (I ts.length):=by cases ts<;>exact id rfl
theorem B5W {ts:ZQ} {i:Nat} (h:i<ts.length):Fq ts= .list ts.length (ts.flatMap Nf):=by
 cases ts with
 |nil=>simp at h
 |cons t ts=>rfl
theorem Tb {ts:ZQ} {i:Nat} {K:AV→Al} (h:i<ts.length):B0 A8 (Fq ts) (I i) K=K (.iptr (Nf ts[i])):=by
 rw[B5W h]
 exact A1Z (f:=Nf) rfl (λ_=>rfl) h
theorem C6I {a b c d:List UInt8} {K:AV→Al}:Go.Abs.Uw OH .eql (.agg [S a,S b]) (.agg [S c,S d]) K=K (Bo (decide (a=c)&&decide (b=d))):=by
 have e:Go.Abs.Uw OH .eql (.agg [S a,S b]) (.agg [S c,S d]) K=(match(generalizing:=false) (some (eqB a c&&(eqB b d&&true)):Option Bool),BinOp.eql with
  |some q,.eql=>bB q K
  |some q,.neq=>bB (!q) K
  |_,_=>none):=rfl
 rw[e]
 show bB _ K=_
 rw[Ld,PQ,PQ,l1b]
 have h1:∀(x y:List UInt8),(x==y)=decide (x=y):= λx y=>by by_cases h:x=y<;>simp[h]
 rw[h1,h1]
section
variable {K:KV} {x:Al} {ca cb ra rb:List UInt8} {ts:ZQ}
theorem gT {q:Bool} {y:Bool→Al}:gdV q (.v (.bool q)) y=y true:=by cases q<;>exact id rfl
theorem gTF {y:Bool→Al}:gdV true (.v (.bool false)) y=y false:=id rfl
theorem gFT {y:Bool→Al}:gdV false (.v (.bool true)) y=y false:=id rfl
theorem Co {v:AV} {H:Hp} {K:KV}:DW (some (v,H)) K=K v H:=id rfl
theorem Wu {a b:AV} {K:AV→Al}:AJ (.v (.bool true)) a b K=K a:=id rfl
theorem Vk {a b:AV} {K:AV→Al}:AJ (.v (.bool false)) a b K=K b:=id rfl
theorem ntT {K:AV→Al}:F8 .not (.v (.bool true)) K=K (Bo false):=id rfl
theorem ntF {K:AV→Al}:F8 .not (.v (.bool false)) K=K (Bo true):=id rfl
abbrev A6D (ca cb ra rb:List UInt8) (ts:ZQ):Row:= .cells true Dq [S ca,S cb,Fq ts,S ra,S rb]
theorem C3S {k37:Hp→Al} {r0:Nat} (ht:TmsOk ts) (hx:∀H,k37 H=x):∀(f i:Nat) (H:Hp),i≤ts.length→ts.length-i<f→Ax H r0=some (A6D ca cb ra rb ts)→Wf H→
 Lx (L+20) (rt (L+20) (n+41)) K k37 f (.ptr r0 0 0) (I i) H=x:=by
 intro f
 induction f with
 |zero=>intro i H _ h;omega
 |succ f ih=>
  intro i H hi hf hl w
  have hb:=ht.len
  rw[XC]
  unfold Pf Ba Bu Ar Ev CK
  have f2:∀K:AV→Al,AN 2 (.ptr r0 0 0) K=K (.ptr r0 2 0):= λK=>id rfl
  have l2:∀K,Aq A8 (.ptr r0 2 0) H K=K (Fq ts):= λK=>AY (p:=2) rfl hl (by simp)
  rw[f2,l2,NS]
  by_cases h:i<ts.length
  ·rw[FW (by omega),Dn,f2,l2,Tb h]
   have hr:=ht.rng _ (QS h)
   have lt:∀H K,Aq BI (.iptr (Nf ts[i])) H K=K (.agg (Nf ts[i])):= λH K=>id rfl
   rw[lt,Bf (cs:=[zI,zS,zS]) rfl]
   have hn0:=A1 (H:=H) (x:= .cells true AQ [zI,zS,zS]) (by simp)
   rw[B7 (vs:=Nf ts[i]) hn0 rfl rfl rfl]
   have hr1:=AC (q:=true) (e:=AQ) (cs:=Nf ts[i]) hn0
   have hlt:=w.lt hl
   have hl1:Ax (upd ((A6 H,Row.cells true AQ [zI,zS,zS])::H) (A6 H) (.cells true AQ (Nf ts[i]))) r0=some (A6D ca cb ra rb ts):=by
    rw[Au (by omega)];exact Bj hlt hl
   have w1:=Cj (r:=A6 H) (y:= .cells true AQ (Nf ts[i])) (BE (x:= .cells true AQ [zI,zS,zS]) w)
   generalize upd ((A6 H,Row.cells true AQ [zI,zS,zS])::H) (A6 H) (.cells true AQ (Nf ts[i]))=H1 at hr1 hl1 w1
   generalize A6 H=r at hr1
   have g1:∀K:AV→Al,AN 1 (.ptr r 0 0) K=K (.ptr r 1 0):= λK=>id rfl
   have g0:∀K:AV→Al,AN 0 (.ptr r 0 0) K=K (.ptr r 0 0):= λK=>id rfl
   have m1:∀K,Aq Ap (.ptr r 1 0) H1 K=K (.agg (qa ts[i].2)):= λK=>EX (p:=1) rfl hr1 (show 3≤3 from O8 _)
   have m0:∀K,Aq Ab (.ptr r 0 0) H1 K=K (I ts[i].1):= λK=>AY (p:=0) rfl hr1 (show 0<3 by decide)
   have m2:∀K,Aq A8 (.ptr r0 2 0) H1 K=K (Fq ts):= λK=>AY (p:=2) rfl hl1 (by simp)
   rw[g1,m1,A0X (n:=n+1) (by omega) (by omega)]
   have hq:=C3Y (by omega) (by omega) hr.2.2.2.2
   have hw:∀H K,Ah (rt (L+20) (n+41)) Kw [.v (.int .i64 0)] H K=K (.agg [S [48],S [49]]):= λH K=>A5Y (z:=0) (n:=n+1) (by decide) (by decide) H K
   have i1:∀K,Go.Abs.Ak Ab .lss (I ts[i].1) (.v (.int .i64 1)) K=K (Bo false):= λK=>FX (by omega)
   have i2:∀K,Go.Abs.Ak Ab .gtr (I ts[i].1) (.v (.int .i64 1000000)) K=K (Bo false):= λK=>by rw[Ej,decide_eq_false (by omega)]
   simp only[ntT,BJ,gT,g1,m1,Co,hw,C6I,hq,decide_false,Bool.false_and,Vk,g0,m0,i1,i2]
   by_cases hi0:0<i
   ·have i3:∀K,Go.Abs.Ak Ab .gtr (I (i:Int)) (.v (.int .i64 0)) K=K (Bo true):= λK=>by rw[Ej,decide_eq_true (by omega)]
    have hi1:i-1<ts.length:=by omega
    have i5:∀K:AV→Al,AN 0 (.iptr (Nf ts[i-1])) K=K (.iptr (Nf ts[i-1])):= λK=>id rfl
    have i6:∀K,Aq Ab (.iptr (Nf ts[i-1])) H1 K=K (I ts[i-1].1):= λK=>id rfl
    have hasc:ts[i-1].1<ts[i].1:=(l20.1 ht.asc) (i-1) i hi1 h (by omega)
    have i7:∀K,Go.Abs.Ak Ab .geq (I ts[i-1].1) (I ts[i].1) K=K (Bo false):= λK=>by rw[Me,decide_eq_false (by omega)]
    simp only[i3,BJ,Co,gT,f2,m2,A3f hi0 (by omega:i<1000000000),Tb hi1,i5,i6,g0,m0,i7,Wu,Vk]
    rw[BD,DS (by omega)]
    exact ih (i+1) H1 (by omega) (by omega) hl1 w1
   ·have i3:∀K,Go.Abs.Ak Ab .gtr (I (i:Int)) (.v (.int .i64 0)) K=K (Bo false):= λK=>by rw[Ej,decide_eq_false (by omega)]
    simp only[i3,BJ,Co,gT,gTF,Wu,Vk]
    rw[BD,DS (by omega)]
    exact ih (i+1) H1 (by omega) (by omega) hl1 w1
  ·rw[FX (by omega),BD]
   exact hx H
theorem A11 {c r:Int} (hc1: -80≤c) (hc2:c≤80) (hr1:0≤r) (hr2:r≤8) (hL:10<L) (ht:TmsOk ts):CS (rt (L+20) (n+42)) Gs [.agg (Vo (qn c) (qd c) (Fq ts) (qn r) (qd r))] (Bo true):=by
 intro K hK
 have hb:=ht.len
 rw[Zw]
 unfold QK Bu Ar Ev CK
 rw[EY (by cases ts<;>rfl)]
 have hn0:=A1 (H:=[]) (x:=A6D (qn c) (qd c) (qn r) (qd r) ts) (by simp)
 have w0:Wf [(A6 [],A6D (qn c) (qd c) (qn r) (qd r) ts)]:=BE Fv
 generalize [(A6 [],A6D (qn c) (qd c) (qn r) (qd r) ts)]=H at hn0 w0
 generalize A6 []=r0 at hn0
 have f0:∀K:AV→Al,AN 0 (.ptr r0 0 0) K=K (.ptr r0 0 0):= λK=>id rfl
 have f2:∀K:AV→Al,AN 2 (.ptr r0 0 0) K=K (.ptr r0 2 0):= λK=>id rfl
 have f3:∀K:AV→Al,AN 3 (.ptr r0 0 0) K=K (.ptr r0 3 0):= λK=>id rfl
 have m0:∀K,Aq Ap (.ptr r0 0 0) H K=K (.agg (qa c)):= λK=>EX (p:=0) rfl hn0 (show 2≤5 by decide)
 have m3:∀K,Aq Ap (.ptr r0 3 0) H K=K (.agg (qa r)):= λK=>EX (p:=3) rfl hn0 (show 5≤5 by decide)
 have m2:∀K,Aq A8 (.ptr r0 2 0) H K=K (Fq ts):= λK=>AY (p:=2) rfl hn0 (show 2<5 by decide)
 have hw:∀H K,Ah (rt (L+20) (n+41)) Kw [.v (.int .i64 0)] H K=K (.agg [S [48],S [49]]):= λH K=>A5Y (z:=0) (n:=n+1) (by decide) (by decide) H K
 rw[f0,m0,A0X (n:=n+1) (by omega) (by omega),f3,m3,A0X (n:=n+1) (by omega) (by omega)]
 have h1:∀K,Ah (rt (L+20) (n+41)) Oi [.agg (qa r),.agg [S [48],S [49]]] H K=K (I (if r=0 then 0 else 1)):= λK=>C1m (n:=n+1) (by omega) (by omega) H K
 have h2:∀K,Go.Abs.Ak Ab .lss (I (if r=0 then 0 else 1)) (.v (.int .i64 0)) K=K (Bo false):= λK=>FX (by split<;>omega)
 have h3:∀K,Go.Abs.Ak Ab .gtr (I (ts.length:Int)) (.v (.int .i64 64)) K=K (Bo false):= λK=>by rw[Ej,decide_eq_false (by omega)]
 simp only[ntT,BJ,Co,gT,Vk,f3,m3,hw,h1,h2,f2,m2,NS,h3,Cp]
 rw[BD]
 have e0:(AV.v (.int .i64 0))=I ((0:Nat):Int):=rfl
 rw[e0]
 exact C3S (n:=n) ht (λH=>hK _ _ (λb=>⟨false,λK=>by kernel_rfl⟩)) (L+20) 0 H (by omega) (by omega) hn0 w0
end
end
section
variable {L n:Nat}
theorem B5E {z:Int} (h1:0≤z) (h2:z<9):PS (rt (L+20) (n+40)) JA [.agg (qa z)] (I (if z=0 then 0 else 1)):=
 B11 (args:= λz=>[.agg (qa z)]) (val:= λz=>I (if z=0 then 0 else 1)) (a:=0) (b:=9) (λz H K=>by kernel_rfl) (by kernel_rfl) h1 h2
theorem B5D {z:Int} (h1: -8≤z) (h2:z<9):PS (rt (L+20) (n+40)) IC [.agg (qa z)] (Bo (decide (z=0))):=
 B11 (args:= λz=>[.agg (qa z)]) (val:= λz=>Bo (decide (z=0))) (a:= -8) (b:=9) (λz H K=>by kernel_rfl) (by kernel_rfl) h1 h2
end
end Go.Abs
end
