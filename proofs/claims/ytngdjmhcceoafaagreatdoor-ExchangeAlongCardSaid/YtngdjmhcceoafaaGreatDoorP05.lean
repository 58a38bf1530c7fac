import Derived.Test.YtngdjmhcceoafaaGreatDoorP04
set_option linter.all false
set_option maxHeartbeats 100000000
noncomputable section
namespace Go.Abs
open Go.RowKit
def jn {α:Type} (k:α) (F:α->Af):Af:=(λ(_:Unit)=>F k) Iq
def mV (R:Rt) (n:Nat) (f:AV) (t:Tm) (ps:Array Tmp) (d e:Code) (H:Hp) (K:Option (Option Code)->Hp->Af):Af:=
 match f with
 | .fn (.func g) first cap=>Ig H λs=>Ym first (.yl s::cap) λall=>R.call g all ((s,.loop n t ps d e (some none))::H) λ_ b=>IJ b s λx=>Z6 x λ_ _ _ _ _ a=>LC b s .gone λc=>K a c
 |_=>none
def mI (p:Option (Option Code)) (x y:Af) (e g:Nat->Af):Af:=
 match p with
 |some none=>x
 |some (some .ret)=>y
 |some (some (.exit id))=>e id
 |some (some (.goto l))=>g l
 |_=>none
def rdK (run:U_) (N:Nat) (t:Tm) (ps:Array Tmp) (args:List AV) (f g:Code) (H:Hp) (P:Hp->(Hp->Af)->Af) (Q:Exit->Hp->Af):Af:=
 A2K t ps.toList args λa=>run ⟨true,a.map (·.1),false,N,[]⟩ f a H λe h b=>match e with
  | .normal=>P b λc=>run ⟨true,a.map (·.1),false,N,[]⟩ g h c λe _ d=>Q e d
  |_=>none
def A0x:Code->List (Operand×Array Tmp×Code×Code)
 | .seq x y=>A0x x++A0x y
 | .cond _ x y=>A0x x++A0x y
 | .block _ x=>A0x x
 | .loop x=>A0x x
 | .scope x=>A0x x
 | .rangeFunc g ps a b=>[(g,ps,a,b)]
 |_=>[]
def XA8 (c:Code) (k:Nat):Operand×Array Tmp×Code×Code:=(A0x c).getD k (.func 0,#[],.skip,.skip)
abbrev zI:AV:= .v (.int .i64 0)
abbrev zS:AV:= .v (.string ⟨⟨[]⟩⟩)
abbrev zL:AV:= .v (.slice none 0 0)
abbrev zB:AV:= .v (.bool false)
section
variable {s u:List UInt8}
abbrev I (n:Int):AV:= .v (.int .i64 n)
abbrev Bo (b:Bool):AV:= .v (.bool b)
abbrev S (l:List UInt8):AV:= .v (.string ⟨⟨l⟩⟩)
section
variable {K:AV->Af} {i j:TI} {k:IntKind} {a b:Int}
def Dm:Ap i .add (.v (.int k a)) (.v (.int k b)) K=K (.v (.int k (k.wrap (a+b)))):=by
 have:Ap i .add (.v (.int k a)) (.v (.int k b)) K=ck (decide (k=k)) (Og k (a+b) λz=>K (.v (.int k z))):=rfl;rw[this,Iu rfl];exact IQ _ _ _
def K7:Ap i .sub (.v (.int k a)) (.v (.int k b)) K=K (.v (.int k (k.wrap (a-b)))):=by
 have:Ap i .sub (.v (.int k a)) (.v (.int k b)) K=ck (decide (k=k)) (Og k (a-b) λz=>K (.v (.int k z))):=rfl;rw[this,Iu rfl];exact IQ _ _ _
def Qm:Ap i .mul (.v (.int k a)) (.v (.int k b)) K=K (.v (.int k (k.wrap (a*b)))):=by
 have:Ap i .mul (.v (.int k a)) (.v (.int k b)) K=ck (decide (k=k)) (Og k (a*b) λz=>K (.v (.int k z))):=rfl;rw[this,Iu rfl];exact IQ _ _ _
def B1j (h:b≠0):Ap i .quo (.v (.int k a)) (.v (.int k b)) K=K (.v (.int k (k.wrap (a.tdiv b)))):=by
 have:Ap i .quo (.v (.int k a)) (.v (.int k b)) K=ck (decide (k=k)) (ck (!ieq b 0) (Og k (a.tdiv b) λz=>K (.v (.int k z)))):=rfl;rw[this,Iu rfl,Q8,IG h];exact IQ _ _ _
def Vd (h:b≠0):Ap i .rem (.v (.int k a)) (.v (.int k b)) K=K (.v (.int k (a.tmod b))):=by
 have:Ap i .rem (.v (.int k a)) (.v (.int k b)) K=ck (decide (k=k)) (ck (!ieq b 0) (fI (a.tmod b) λz=>K (.v (.int k z)))):=rfl;rw[this,Iu rfl,Q8,IG h];exact UZ (a.tmod b) (λz=>K (.v (.int k z)))
def Ej:Ap i .lss (.v (.int k a)) (.v (.int k b)) K=K (Bo (decide (a<b))):=by
 have:Ap i .lss (.v (.int k a)) (.v (.int k b)) K=ck (decide (k=k)) (bB (!oR b a) K):=rfl;rw[this,Iu rfl,Lw];have e:(!decide (b<=a))=decide (a<b):=by rw[tG];simp
 rw[e];exact OC _ _
def iD:Ap i .leq (.v (.int k a)) (.v (.int k b)) K=K (Bo (decide (a<=b))):=by
 have:Ap i .leq (.v (.int k a)) (.v (.int k b)) K=ck (decide (k=k)) (bB (oR a b) K):=rfl;rw[this,Iu rfl,Lw];exact OC _ _
def E5:Ap i .gtr (.v (.int k a)) (.v (.int k b)) K=K (Bo (decide (b<a))):=by
 have:Ap i .gtr (.v (.int k a)) (.v (.int k b)) K=ck (decide (k=k)) (bB (!oR a b) K):=rfl;rw[this,Iu rfl,Lw];have e:(!decide (a<=b))=decide (b<a):=by rw[tG];simp
 rw[e];exact OC _ _
def L7:Ap i .geq (.v (.int k a)) (.v (.int k b)) K=K (Bo (decide (b<=a))):=by
 have:Ap i .geq (.v (.int k a)) (.v (.int k b)) K=ck (decide (k=k)) (bB (oR b a) K):=rfl;rw[this,Iu rfl,Lw];exact OC _ _
def CP:Ap i .eql (.v (.int k a)) (.v (.int k b)) K=K (Bo (decide (a=b))):=by
 have:Ap i .eql (.v (.int k a)) (.v (.int k b)) K=ck (decide (k=k)) (bB (ieq a b) K):=rfl;rw[this,Iu rfl,Q8];exact OC _ _
def IS:Ap i .neq (.v (.int k a)) (.v (.int k b)) K=K (Bo (!decide (a=b))):=by
 have:Ap i .neq (.v (.int k a)) (.v (.int k b)) K=ck (decide (k=k)) (bB (!ieq a b) K):=rfl;rw[this,Iu rfl,Q8];exact OC _ _
def LV:Ap i .eql (S s) (S u) K=K (Bo (decide (s=u))):=by
 have:Ap i .eql (S s) (S u) K=bB (Y? s u) K:=rfl;rw[this,QA,OC,show(s==u)=decide (s=u) from by by_cases h:s=u<;>simp[h]]
def YW:Ap i .neq (S s) (S u) K=K (Bo (!decide (s=u))):=by
 have:Ap i .neq (S s) (S u) K=bB (!Y? s u) K:=rfl;rw[this,QA,OC,show(s==u)=decide (s=u) from by by_cases h:s=u<;>simp[h]]
def F8 {q:Bool} {x y:Af}:Az (Bo q) x y=if q=true then x else y:=by cases q<;>rfl
end
def BK {α:Type} (k:α) (F:α->Af):jn k F=F k:=rfl
def CW {x:Int} (h1: -9223372036854775808<=x) (h2:x<9223372036854775808):IntKind.i64.wrap x=x:=by
 simp only[IntKind.wrap,IntKind.bits,IntKind.signed];have c:(2^64:Int)=18446744073709551616:=by decide
 have d:(2^(64-1):Int)=9223372036854775808:=by decide
 simp only[c,d,X',decide_eq_true_eq];split<;>omega
end
def A2f {E:XE} {g:Nat} {R:Rt} {args:List AV} {H:Hp} {K:AV->Af} (h:∀s,args≠[.ptr s 0 0]):zpm E g R args H K=An R g args H K:=by
 show @Bool.rec (λ_=>Af) (An R g args H K) (KC R g args H K) (E.lm g)=_;cases E.lm g
 ·rfl
 ·show KC R g args H K=_;unfold KC;split
  ·rename_i s;exact absurd rfl (h s)
  ·rfl
section
variable {v:AV} {b q q':Bool} {H:Hp} {args:List AV} {D n:Nat} {P:Program} {R:Rt} {F:Rt->AV->AV->AV->AV->Hp->KV->Af} {α:Type} {x:Value}
def BT.All (p:Nat->α->Prop):BT α->Prop
 | .leaf=>True
 | .node k v l r=>p k v/\l.All p/\r.All p
def U' {p:Nat->α->Prop}:(BT.leaf:BT α).All p:=trivial
def T_ {p:Nat->α->Prop} {k:Nat} {v:α} {l r:BT α} (h:p k v) (a:l.All p) (hr:r.All p):(BT.node k v l r).All p:=⟨h,a,hr⟩
theorem BT.All.get {p:Nat->α->Prop}:∀{b:BT α},b.All p->∀{i:Nat} {v:α},b.get i=some v->p i v:=by
 intro b
 induction b with
 |leaf=>intro _ i v h;cases h
 |node k w l r a c=>
  intro e i v h;obtain⟨h1,h2,d⟩:=e;simp only[BT.get] at h;split at h
  ·rename_i g;injection h with h
   subst h;rw[YM g];exact h1
  ·split at h
   ·exact a h2 h
   ·exact c d h
abbrev NF:=Rt->List AV->Hp->KV->Af
def ar0 (F:Hp->KV->Af) (l:List AV):Hp->KV->Af:=match l with|[]=>F|_=> λ_ _=>none
def ar1 (F:AV->Hp->KV->Af) (l:List AV):Hp->KV->Af:=match l with|[a]=>F a|_=> λ_ _=>none
def ar2 (F:AV->AV->Hp->KV->Af) (l:List AV):Hp->KV->Af:=match l with|[a,b]=>F a b|_=> λ_ _=>none
def ar3 (F:AV->AV->AV->Hp->KV->Af) (l:List AV):Hp->KV->Af:=match l with|[a,b,c]=>F a b c|_=> λ_ _=>none
def ar4 (F:AV->AV->AV->AV->Hp->KV->Af) (l:List AV):Hp->KV->Af:=match l with|[a,b,c,d]=>F a b c d|_=> λ_ _=>none
def ar5 (F:AV->AV->AV->AV->AV->Hp->KV->Af) (l:List AV):Hp->KV->Af:=match l with|[a,b,c,d,e]=>F a b c d e|_=> λ_ _=>none
def OG (E:XE) (R:Rt):U_:= λa c t H K=>eB E R (A4s E R) a c t H K
def Lk (E:XE) (f:Nat) (F:NF):Prop:=∀(R:Rt) (args:List AV) (H:Hp) (K:KV) (r:AV×Hp),F R args H K=some r->zfn E (OG E R) f args H K=some r
def lk0 {E:XE} {f:Nat} {F:Rt->Hp->KV->Af} (h:∀R H K,zfn E (OG E R) f [] H K=F R H K):Lk E f λR=>ar0 (F R):= λR args H K r hr=>by
 match args,hr with
 |[],hr=>exact(h R H K).trans hr
def lk1 {E:XE} {f:Nat} {F:Rt->AV->Hp->KV->Af} (h:∀R a H K,zfn E (OG E R) f [a] H K=F R a H K):Lk E f λR=>ar1 (F R):= λR args H K r hr=>by
 match args,hr with
 |[a],hr=>exact(h R a H K).trans hr
def lk2 {E:XE} {f:Nat} {F:Rt->AV->AV->Hp->KV->Af} (h:∀R a b H K,zfn E (OG E R) f [a,b] H K=F R a b H K):Lk E f λR=>ar2 (F R):= λR args H K r hr=>by
 match args,hr with
 |[a,b],hr=>exact(h R a b H K).trans hr
def lk3 {E:XE} {f:Nat} {F:Rt->AV->AV->AV->Hp->KV->Af} (h:∀R a b c H K,zfn E (OG E R) f [a,b,c] H K=F R a b c H K):Lk E f λR=>ar3 (F R):= λR args H K r hr=>by
 match args,hr with
 |[a,b,c],hr=>exact(h R a b c H K).trans hr
def lk4 {E:XE} {f:Nat} (h:∀R a b c d H K,zfn E (OG E R) f [a,b,c,d] H K=F R a b c d H K):Lk E f λR=>ar4 (F R):= λR args H K r hr=>by
 match args,hr with
 |[a,b,c,d],hr=>exact(h R a b c d H K).trans hr
def lk5 {E:XE} {f:Nat} {F:Rt->AV->AV->AV->AV->AV->Hp->KV->Af} (h:∀R a b c d e H K,zfn E (OG E R) f [a,b,c,d,e] H K=F R a b c d e H K):Lk E f λR=>ar5 (F R):= λR args H K r hr=>by
 match args,hr with
 |[a,b,c,d,e],hr=>exact(h R a b c d e H K).trans hr
def Yv (E:XE) (nT:BT NF) (R:Rt):B1W:= λf args H K=>match nT.get f with|some F=>F R args H K|none=>zfn E (OG E R) f args H K
abbrev OF:=List AV->Hp->KV->Af->Af
def zK (E:XE) (P:Program) (f:Nat) (F:OF):Prop:=∀(args:List AV) (H:Hp) (K:KV) (alt:Af) (r:AV×Hp),F args H K alt=some r->
 alt=some r\/(Zw P f/\QF P E.G f args H (λc a=>K c a=some r))
def A1P (E:XE) (nT:BT NF) (oT:BT OF) (R:Rt):B1W:= λf args H K=>match oT.get f with
 |some F=>F args H K (Yv E nT R f args H K)
 |none=>Yv E nT R f args H K
def Wc (E:XE) (nT:BT NF) (oT:BT OF) (n:Nat):Rt:=@Nat.rec (λ_=>Rt) ⟨λ_ _ _ _=>none,λ_ _ _ _ _=>none⟩ (λ_ R=>⟨A1P E nT oT R,OG E R⟩) n
section
variable {E:XE} {nT:BT NF} {oT:BT OF} {f:Nat}
def UT {F:NF} (h:nT.get f=some F) (a:oT.get f=none) (n:Nat) (args:List AV) (H:Hp) (K:KV):(Wc E nT oT (n+1)).call f args H K=F (Wc E nT oT n) args H K:=by
 show A1P E nT oT (Wc E nT oT n) f args H K=_;unfold A1P;rw[a];unfold Yv;simp only[h]
def A3m {F:Rt->Hp->KV->Af} (h:nT.get f=some λR=>ar0 (F R)) (a:oT.get f=none) (n:Nat) (H:Hp) (K:KV):(Wc E nT oT (n+1)).call f [] H K=F (Wc E nT oT n) H K:=UT h a n _ H K
def A3l {F:Rt->AV->Hp->KV->Af} (h:nT.get f=some λR=>ar1 (F R)) (c:oT.get f=none) (n:Nat) (a:AV) (H:Hp) (K:KV):(Wc E nT oT (n+1)).call f [a] H K=F (Wc E nT oT n) a H K:=UT h c n _ H K
def A3k {F:Rt->AV->AV->Hp->KV->Af} (h:nT.get f=some λR=>ar2 (F R)) (c:oT.get f=none) (n:Nat) (a b:AV) (H:Hp) (K:KV):(Wc E nT oT (n+1)).call f [a,b] H K=F (Wc E nT oT n) a b H K:=UT h c n _ H K
def A3j {F:Rt->AV->AV->AV->Hp->KV->Af} (h:nT.get f=some λR=>ar3 (F R)) (d:oT.get f=none) (n:Nat) (a b c:AV) (H:Hp) (K:KV):(Wc E nT oT (n+1)).call f [a,b,c] H K=F (Wc E nT oT n) a b c H K:=UT h d n _ H K
def A3i (h:nT.get f=some λR=>ar4 (F R)) (e:oT.get f=none) (n:Nat) (a b c d:AV) (H:Hp) (K:KV):(Wc E nT oT (n+1)).call f [a,b,c,d] H K=F (Wc E nT oT n) a b c d H K:=UT h e n _ H K
end
def A3h {E:XE} {nT:BT NF} {oT:BT OF} (e:XE.Ok rO E P) (s:nT.All (Lk E)) (p:oT.All (zK E P)):∀n,RSound rO E P (Wc E nT oT n):=by
 intro n
 induction n with
 |zero=>
  refine⟨?_,?_⟩
  ·intro ro k c t H K r m h1 h2 h;cases h
  ·intro f args H K r h;cases h
 |succ n ih=>
  have u:A4l rO E P (A4s E (Wc E nT oT n)):=A02 (λ_ _ _ _ h=>h) e ih;have a:iQ rO E P (OG E (Wc E nT oT n)):= λro k c t H K r m i w h=>A03 e ih u i c t H K w h;have d:∀(f:Nat) (args:List AV) (H:Hp) (K:KV) (r:AV×Hp),Yv E nT (Wc E nT oT n) f args H K=some r->Zw P f/\QF P E.G f args H (λv j=>K v j=some r):= λf args H K r h=>by
   unfold Yv at h;split at h
   ·rename_i F g;exact xD e a (s.get g _ _ _ _ _ h)
   ·exact xD e a h
  refine⟨a,λf args H K r h=> ?_⟩;have h:A1P E nT oT (Wc E nT oT n) f args H K=some r:=h;unfold A1P at h;split at h
  ·rename_i F g;rcases p.get g _ _ _ _ _ h with h|h
   ·exact d f args H K r h
   ·exact h
  ·exact d f args H K r h
def dR {G:Gl} {f:Nat} {K:KV} {r:AV×Hp} (g:K (.v x) H=some r) (hc:∀w0 C w a,Rel G w0 C H w->CG C w args a->Calls P f a.toArray w λe c=>e= .returned x/\Below w.heap.size w c):QF P G f args H (λi d=>K i d=some r):= λw0 C w a hr h=>
 (hc w0 C w a hr h).mono λe c ⟨he,hb⟩=>⟨.v x,x,C,H,he,hr.of_below hb,.v _,(hr.ext_below hb).frm,g⟩
def PS (R:Rt) (f:Nat) (args:List AV) (v:AV):Prop:=∀H K,An R f args H K=K v
def Fx (b:Bool) (D:Nat) (a c:AV) (H:Hp) (q:Bool):Prop:=∀K:Bool->AV->Af,HP b H D a K=K q c
def C7:Fx b D (.v x) (.v x) H false:= λK=>by cases D<;>rfl
def Of {cs:List AV}:Fx true D (.list n cs) (.list n cs) H false:= λK=>by cases D<;>rfl
def QV {cs:List AV}:Fx true D (.iptr cs) (.iptr cs) H false:= λK=>by cases D<;>rfl
def gL {es:List (Value×AV)}:Fx true D (.imap es) (.imap es) H false:= λK=>by cases D<;>rfl
def Rr (b:Bool) (D:Nat) (l a:List AV) (H:Hp) (q:Bool):Prop:=∀K:Bool->List AV->Af,IB (HP b H D) l K=K q a
def AJ:Rr b D [] [] H false:= λ_=>rfl
def Am {a c:AV} {l d:List AV} (h:Fx b D a c H q) (k:Rr b D l d H q'):Rr b D (a::l) (c::d) H (q||q'):= λK=>by
 have e:IB (HP b H D) (a::l) K=HP b H D a λq c=>IB (HP b H D) l λq' d=>K (@Bool.rec (λ_=>Bool) q' true q) (c::d):=rfl;rw[e,h,k];cases q<;>rfl
theorem KO (f:α->Value):∀(l:List α),Rr b D (l.map λx=> .v (f x)) (l.map λx=> .v (f x)) H false
 |[]=>AJ
 |a::l=>Am (q:=false) (q':=false) C7 (KO f l)
def Lx {cs cs':List AV} (h:Rr b D cs cs' H q):Fx b (D+1) (.agg cs) (.agg cs') H q:= λK=>h _
def dG {cs cs':List AV} (h:Rr b D cs cs' H q):Fx b (D+1) (.tup cs) (.tup cs') H q:= λK=>h _
def Bf {r:Nat} {x:Row} {K:Row->Af} (h:Aj H r=some x):IJ H r K=K x:=by
 induction H with
 |nil=>simp[Aj] at h
 |cons p H ih=>
  obtain⟨k,y⟩:=p;simp only[Aj] at h;have e:IJ ((k,y)::H) r K=@Bool.rec (λ_=>Af) (IJ H r K) (K y) (Nat.beq r k):=rfl;rw[e];by_cases a:r=k
  ·rw[Dj a] at h;rw[a,mK,<-(fR h).1]
  ·rw[C4 a] at h;have:Nat.beq r k=false:=by
    cases hb:Nat.beq r k
    ·rfl
    ·exact absurd (YM hb) a
   rw[this];exact ih h
def WU {sz s n:Nat} {e:TypeId} {cs cs':List AV} (i:Aj H s=some (.cells q e cs)) (hn:cs.length=n*sz) (h:Rr b D cs cs' H q'):Fx b (D+1) (.sl sz s 0 n) (.list n cs') H true:= λK=>by
 have d:HP b H (D+1) (.sl sz s 0 n) K=IJ H s λx=>JV x λ_ cs=>E8 (Nat.mul n sz) (Di 0 cs) λc=>IB (HP b H D) c λ_ a=>K true (.list n a):=rfl;rw[d,Bf i];have g:(JV (.cells q e cs) λ_ cs=>E8 (Nat.mul n sz) (Di 0 cs) λc=>IB (HP b H D) c λ_ a=>K true (.list n a))=E8 (n*sz) cs λc=>IB (HP b H D) c λ_ a=>K true (.list n a):=rfl;rw[g,KA _ _ _ (by omega),W! (by omega),h]
def CS (R:Rt) (f:Nat) (args:List AV) (v:AV):Prop:=∀K:KV,(∀c a,(∀b,∃q,Fx b depth c v a q)->K c a=some (v,[]))->R.call f args [] K=some (v,[])
def AQ {f:Nat} {args args':List AV} {K:AV->Af} (hc:CS R f args' v) (e:Rr true depth args args' H q):An R f args H K=K v:=by
 unfold An;rw[e];have:=hc (λa c=>HP (!q) c depth a λ_ g=>some (g,[])) (λa i h=>by
  obtain⟨q',d⟩:=h (!q);exact d _)
 rw[this];rfl
def CS.ps {f:Nat} (hc:CS R f args v) (a:∀H,Rr true depth args args H false):PS R f args v:= λH K=>AQ hc (a H)
end
section
variable {v zi zj:AV} {H:Hp} {k q:IntKind} {a a' b b':Nat}
abbrev W (x:BitVec 32):AV:= .v (.int .u32 (x.toNat:Int))
abbrev By (b:UInt8):AV:= .v (.int .u8 (b.toNat:Int))
def Ml (l:List UInt8):List AV:=l.map λb=>By b
def DU (l:List (BitVec 32)):List AV:=l.map λx=>W x
def ZD (h:k.signed=false) (z:Int):k.wrap z=z%(2^k.bits:Nat):=by
 simp only[IntKind.wrap,h,Bool.false_and];simp
def Lp (x:BitVec 32):BitVec.ofInt 32 (x.toNat:Int)=x:=by
 apply BitVec.eq_of_toNat_eq;simp
def eF {n:Nat} (h:n<4294967296):IntKind.u32.wrap (n:Int)=(n:Int):=by
 rw[ZD rfl];show(n:Int)%(4294967296:Nat)=n;omega
section
variable {K:AV->Af} {i j:TI} {x y:BitVec 32}
def Q! (op:BinOp) (f:IT) (d:IV op=false) (c:A3T op=f):Ap i op (W x) (W y) K=f .u32 x.toNat y.toNat K:=by
 have:Ap i op (W x) (W y) K=@Bool.rec (λ_=>Af) (ck (decide (IntKind.u32= .u32)) (A3T op .u32 x.toNat y.toNat K)) (A3T op .u32 x.toNat y.toNat K) (IV op):=rfl;rw[this,d,c];rfl
def PI:Ap i .add (W x) (W y) K=K (W (x+y)):=by
 rw[Q! .add B4o rfl rfl];unfold B4o;rw[IQ,ZD rfl];have:((x.toNat:Int)+(y.toNat:Int))%(2^IntKind.u32.bits:Nat)=((x+y).toNat:Int):=by
  rw[BitVec.toNat_add];show((x.toNat:Int)+(y.toNat:Int))%(4294967296:Nat)=_;simp only[Int.natCast_emod,Int.natCast_add]
 show K (.v (.int .u32 (((x.toNat:Int)+(y.toNat:Int))%(2^IntKind.u32.bits:Nat))))=_;rw[this]
def Vc:Ap i .xor (W x) (W y) K=K (W (x^^^y)):=by
 rw[Q! .xor B4m rfl rfl];unfold B4m;rw[UZ];have e:(BitVec.ofInt IntKind.u32.bits (x.toNat:Int)^^^BitVec.ofInt IntKind.u32.bits (y.toNat:Int)).toNat=(x^^^y).toNat:=by
  show(BitVec.ofInt 32 (x.toNat:Int)^^^BitVec.ofInt 32 (y.toNat:Int)).toNat=_;rw[Lp,Lp]
 rw[e,eF (x^^^y).isLt]
def yX:Ap i .and (W x) (W y) K=K (W (x&&&y)):=by
 rw[Q! .and B4n rfl rfl];unfold B4n;rw[UZ];have e:(BitVec.ofInt IntKind.u32.bits (x.toNat:Int)&&&BitVec.ofInt IntKind.u32.bits (y.toNat:Int)).toNat=(x&&&y).toNat:=by
  show(BitVec.ofInt 32 (x.toNat:Int)&&&BitVec.ofInt 32 (y.toNat:Int)).toNat=_;rw[Lp,Lp]
 rw[e,eF (x&&&y).isLt]
def iC:Ap i .or (W x) (W y) K=K (W (x|||y)):=by
 rw[Q! .or iOr rfl rfl];unfold iOr;rw[UZ];have e:(BitVec.ofInt IntKind.u32.bits (x.toNat:Int)|||BitVec.ofInt IntKind.u32.bits (y.toNat:Int)).toNat=(x|||y).toNat:=by
  show(BitVec.ofInt 32 (x.toNat:Int)|||BitVec.ofInt 32 (y.toNat:Int)).toNat=_;rw[Lp,Lp]
 rw[e,eF (x|||y).isLt]
def B0T:Mg .xor (W x) K=K (W (~~~x)):=by
 have c:Mg .xor (W x) K=fI (IntKind.u32.wrap ((BitVec.ofInt IntKind.u32.bits (if IntKind.u32.signed=true then-1 else IntKind.u32.max)^^^BitVec.ofInt IntKind.u32.bits (x.toNat:Int)).toNat)) λz=>K (.v (.int .u32 z)):=rfl;rw[c,UZ];have e:(BitVec.ofInt IntKind.u32.bits (if IntKind.u32.signed=true then-1 else IntKind.u32.max)^^^BitVec.ofInt IntKind.u32.bits (x.toNat:Int)).toNat=(~~~x).toNat:=by
  show(BitVec.ofInt 32 4294967295^^^BitVec.ofInt 32 (x.toNat:Int)).toNat=_;rw[Lp];have:BitVec.ofInt 32 4294967295=BitVec.allOnes 32:=by decide
  rw[this,BitVec.allOnes_xor]
 rw[e,eF (~~~x).isLt]
def JF {z:Int} {k:Nat} (hz:z=k) (c:k<=32):Ap i .shr (W x) (.v (.int q z)) K=K (W (x>>>k)):=by
 subst hz;have:Ap i .shr (W x) (.v (.int q (k:Int))) K=ck (oR 0 (k:Int)) (fI ((x.toNat:Int).fdiv (2^(min (k:Int).toNat 32))) λz=>K (.v (.int .u32 z))):=rfl;rw[this,UZ];have h1:oR 0 (k:Int)=true:=by rw[Lw];simp
 have h2:(x.toNat:Int).fdiv (2^(min (k:Int).toNat 32))=((x>>>k).toNat:Int):=by
  rw[kV,l22 c,BitVec.toNat_ushiftRight,Nat.shiftRight_eq_div_pow];have:((2:Int)^k)=((2^k:Nat):Int):=by simp
  rw[this,Int.fdiv_eq_ediv_of_nonneg _ (Int.natCast_nonneg _)];exact(Int.natCast_ediv _ _).symm
 rw[h1,h2];rfl
def L6 {z:Int} {k:Nat} (hz:z=k) (c:k<=32):Ap i .shl (W x) (.v (.int q z)) K=K (W (x<<<k)):=by
 subst hz;have:Ap i .shl (W x) (.v (.int q (k:Int))) K=ck (oR 0 (k:Int)) (Og .u32 ((x.toNat:Int)*2^(min (k:Int).toNat 32)) λz=>K (.v (.int .u32 z))):=rfl;rw[this,IQ,ZD rfl];have h1:oR 0 (k:Int)=true:=by rw[Lw];simp
 have h2:((x.toNat:Int)*2^(min (k:Int).toNat 32))%(2^IntKind.u32.bits:Nat)=((x<<<k).toNat:Int):=by
  rw[kV,l22 c,BitVec.toNat_shiftLeft,Nat.shiftLeft_eq];have:((2:Int)^k)=((2^k:Nat):Int):=by simp
  rw[this,<-Int.natCast_mul];exact(Int.natCast_emod _ _).symm
 rw[h1,h2];rfl
def B1d:Jc ⟨a,b,.int k,zi⟩ ⟨a',b',.int .u8,zj⟩ (W x) K=K (By (UInt8.ofNat x.toNat)):=by
 have:Jc ⟨a,b,.int k,zi⟩ ⟨a',b',.int .u8,zj⟩ (W x) K=Og .u8 (x.toNat:Int) λz=>K (.v (.int .u8 z)):=rfl;rw[this,IQ,ZD rfl];have:(x.toNat:Int)%(2^IntKind.u8.bits:Nat)=((UInt8.ofNat x.toNat).toNat:Int):=by
  rw[UInt8.toNat_ofNat'];exact(Int.natCast_emod _ _).symm
 rw[this]
def B1e {c:UInt8}:Jc ⟨a,b,.int k,zi⟩ ⟨a',b',.int .u32,zj⟩ (By c) K=K (W (BitVec.ofNat 32 c.toNat)):=by
 have:Jc ⟨a,b,.int k,zi⟩ ⟨a',b',.int .u32,zj⟩ (By c) K=Og .u32 (c.toNat:Int) λz=>K (.v (.int .u32 z)):=rfl;rw[this,IQ,ZD rfl];have:(c.toNat:Int)%(2^IntKind.u32.bits:Nat)=((BitVec.ofNat 32 c.toNat).toNat:Int):=by
  rw[BitVec.toNat_ofNat];exact(Int.natCast_emod _ _).symm
 rw[this]
def B1p:Aq (some (v,H)) K=K v:=id rfl
def A44 {c:KV}:Ef (some (v,H)) c=c v H:=id rfl
end
end
section
variable {v:AV} {H H':Hp} {e n s sz:Nat} {K:Nat->List AV->Af} {P:Nat->Prop} {x y:Row} {ie:TI}
def Wf (H:Hp):Prop:=∀k∈H.map (·.1),k<Ao H
def B0g (H:Hp) (r:Nat) (y:Row):(upd H r y).map (·.1)=H.map (·.1):=by
 induction H with
 |nil=>rfl
 |cons p H ih=>
  obtain⟨k,x⟩:=p;by_cases a:r=k
  ·subst a;simp[upd]
  ·simp[upd,a,ih]
def Fk:Wf []:= λk h=>by simp at h
def AI (h:Wf H):Wf ((Ao H,x)::H):= λk a=>by
 show k<Ao H+1;simp only[WR,Uf] at a;rcases a with rfl|a
 ·omega
 ·have:=h k a;omega
def Bn {r:Nat} (h:Wf H):Wf (upd H r y):= λk a=>by rw[BC];rw[B0g] at a;exact h k a
def B02 (h:Aj H s=some x):s∈H.map (·.1):=by
 induction H with
 |nil=>simp[Aj] at h
 |cons p H ih=>
  obtain⟨k,y⟩:=p;simp only[Aj] at h;split at h
  ·rename_i a;simp[a]
  ·simp[ih h]
def Wf.lt (h:Wf H) (a:Aj H s=some x):s<Ao H:=h s (B02 a)
def Aw (a:x≠.gone):Aj ((Ao H,x)::H) (Ao H)=some x:=by
 simp only[Aj,Dj];cases x<;>first|rfl|exact absurd rfl a
def A4 (b:s<Ao H) (a:Aj H s=some y):Aj ((Ao H,x)::H) s=some y:=by
 simp only[Aj];rw[C4 (by omega)];exact a
structure Lat (H H':Hp) (P:Nat->Prop):Prop where
 wf:Wf H->Wf H'
 nx:Ao H<=Ao H'
 keep:Wf H->∀s x,Aj H s=some x->¬P s->Aj H' s=some x
def Lat.refl (H:Hp) (P:Nat->Prop):Lat H H P:=⟨id,Mb _,λ_ _ _ h _=>h⟩
def Lat.trans {H H' a:Hp} {P Q R:Nat->Prop} (h:Lat H H' P) (k:Lat H' a Q) (f:∀s,s<Ao H->P s->R s) (hq:∀s,s<Ao H->Q s->R s):Lat H a R:=
 ⟨λw=>k.wf (h.wf w),Z7 h.nx k.nx,λw s x b hn=>k.keep (h.wf w) s x (h.keep w s x b λc=>hn (f s (w.lt b) c)) λd=>hn (hq s (w.lt b) d)⟩
def Lat.cons (H:Hp) (x:Row) (P:Nat->Prop):Lat H ((Ao H,x)::H) P:=⟨AI,l1u _,λw s y a _=>A4 (w.lt a) a⟩
theorem Lat.upd (H:Hp) (r:Nat) (y:Row) (a:P r):Lat H (upd H r y) P:=⟨Bn,by rw[BC];exact Mb _,λ_ s x b hn=>by rw[Ag (λe=>hn (by rw[e];exact a))];exact b⟩
def B2 (H:Hp) (e sz:Nat) (v:AV) (n:Nat) (cs:List AV):Prop:=
 (v= .v (.slice none 0 0)/\n=0/\cs=[])\/∃r q,v= .sl sz r 0 n/\Aj H r=some (.cells q e cs)/\cs.length=n*sz
def A8 (v:AV) (s:Nat):Prop:=∃sz o n,v= .sl sz s o n
def B2.lat {cs:List AV} (h:B2 H e sz v n cs) (w:Wf H) (k:Lat H H' P) (b:∀s,A8 v s->¬P s):B2 H' e sz v n cs:=by
 rcases h with h|⟨r,q,h1,h2,a⟩
 ·exact .inl h
 ·exact .inr ⟨r,q,h1,k.keep w r _ h2 (b r ⟨sz,0,n,h1⟩),a⟩
theorem B2.lt {cs:List AV} (h:B2 H e sz v n cs) (w:Wf H) (d:A8 v s):s<Ao H:=by
 obtain⟨a,b,c,rfl⟩:=d;rcases h with⟨h,_⟩|⟨r,q,h1,h2,f⟩
 ·cases h
 ·injection h1 with _ h1;subst h1;exact w.lt h2
def Va {cs:List AV}:Ta H (.list n cs) K=K n cs:=rfl
def B9I {l:List UInt8}:Ta H (S l) K=K l.length (Ml l):=by
 have:Ta H (S l) K=HI l 0 λm=>dJ l λc=>K m c:=rfl;rw[this,Co,YQ,JQ];rfl
def B0X:Ta H (.v (.slice none 0 0)) K=K 0 []:=rfl
def Rg {cs:List AV} (h:B2 H e sz v n cs):Ta H v K=K n cs:=by
 rcases h with⟨rfl,rfl,rfl⟩|⟨r,q,rfl,h2,a⟩
 ·rfl
 ·have:Ta H (.sl sz r 0 n) K=IJ H r λx=>JV x λ_ cs=>E8 (Nat.mul n sz) (Di 0 cs) λc=>K n c:=rfl;rw[this,Bf h2];show E8 (n*sz) cs (λc=>K n c)=_;rw[KA _ _ _ (by omega),W! (by omega)]
def apt {e sz n m:Nat} {ie i2:TI} {v src:AV} {cs ys:List AV} (h:B2 H e sz v n cs) (Q:∀K:Nat->List AV->Af,Ta H src K=K m ys) (k:ys.length=m*sz) (h1:ys.all AV.one=true) (hsz:sz≠0) (hz:(Bv ie.zero).length=sz)
 (R:(Zz i2.d&&Tf sz src)=true) (hb:(n+m)*ie.bytes<=70368744177664) (j:n+m<=70368744177664):
 ∃A H',(∀K:KV,E9 e sz ie i2 v src H K=K A H')/\B2 H' e sz A (n+m) (cs++ys)/\(∀s,A8 A s->s=Ao H)/\Lat H H' (A8 v):=by
 have f:∀K:KV,Ve e sz ie i2 v src H K=(match(generalizing:=false) v with
  | .v (.slice none 0 0)=>ck (Nat.ble (Nat.mul m ie.bytes) 70368744177664&&Nat.ble m 70368744177664) (@Bool.rec (λ_=>Af) (Ig H λr=>K (.sl sz r 0 m) ((r,.cells false e ys)::H)) (K (.v (.slice none 0 0)) H) (Nat.beq m 0))
  | .sl t r1 o n=>IJ H r1 λx=>JV x λE cs=>HI cs 0 λcl=>
   ck (Nat.beq E e&&(Nat.beq t sz&&(Nat.beq (Nat.add o (Nat.mul n sz)) cl&&(Nat.ble (Nat.mul (Nat.add n m) ie.bytes) 70368744177664&&Nat.ble (Nat.add n m) 70368744177664))))
    (Ym (Di o cs) ys λi=>LC H r1 .gone λH'=>Ig H λr=>fN (Nat.add n m) λnm=>K (.sl sz r 0 nm) ((r,.cells false e i)::H'))
  |_=>none):= λK=>by
  unfold Ve;rw[Q,Co,CI,Co];have c:(Nat.beq (0+ys.length) (Nat.mul m sz)&&(Nu ys&&(!Nat.beq sz 0&&(Nat.beq (0+(Bv ie.zero).length) sz&&(Zz i2.d&&Tf sz src)))))=true:=by
   have p:Nat.beq sz 0=false:=by
    cases hb:Nat.beq sz 0
    ·rfl
    ·exact absurd (YM hb) hsz
   rw[FI,h1,R,hz,k,p];simp
  rw[c];rfl
 rcases h with⟨rfl,rfl,rfl⟩|⟨r,q,rfl,h2,D⟩
 ·have c:(Nat.ble (Nat.mul m ie.bytes) 70368744177664&&Nat.ble m 70368744177664)=true:=by
   simp only[JQ] at hb j;rw[Kw,iS,iS];exact⟨hb,j⟩
  cases m with
  |zero=>
   refine⟨.v (.slice none 0 0),H,λK=> ?_,.inl ⟨rfl,rfl,by rw[l3d];exact mL (by rw[k,Nat.zero_mul])⟩,λs ⟨a,b,c,g⟩=>by(cases g),⟨λw=>w,Mb _,λ_ u y V _=>V⟩⟩;show Ve e sz ie i2 (.v (.slice none 0 0)) src H K=_;rw[f K];simp only[c];rfl
  |succ m=>
   refine⟨.sl sz (Ao H) 0 (m+1),(Ao H,.cells false e ys)::H,λK=> ?_,.inr ⟨Ao H,false,by rw[JQ],by rw[l3d];exact Aw (by simp),by rw[l3d,JQ];exact k⟩,λs ⟨a,b,c,g⟩=>by injection g with _ g;exact g.symm,Lat.cons _ _ _⟩;show Ve e sz ie i2 (.v (.slice none 0 0)) src H K=_;rw[f K];have M:Nat.beq (m+1) 0=false:=rfl;simp only[c,M,BV];rfl
 ·refine⟨.sl sz (Ao H) 0 (n+m),(Ao H,.cells false e (cs++ys))::upd H r .gone,λK=> ?_,.inr ⟨Ao H,false,rfl,?_,by rw[EY,D,k,W_]⟩,λs ⟨a,b,c,g⟩=>by injection g with _ g;exact g.symm,?_⟩
  ·have N:E9 e sz ie i2 (.sl sz r 0 n) src H K=IJ H r λx=>JV x λE cs=>HI cs 0 λcl=>@Bool.rec (λ_=>Af) (SB (Nat.add 0 (Nat.mul n sz)) cs λi=>LC H r (.cells false E i) λL=>Ve e sz ie i2 (.sl sz r 0 n) src L K) (Ve e sz ie i2 (.sl sz r 0 n) src H K) (Nat.beq (Nat.add 0 (Nat.mul n sz)) cl):=rfl;rw[N,Bf h2];have C:∀F:TypeId->List AV->Af,JV (.cells q e cs) F=F e cs:= λ_=>rfl;rw[C,Co];have B:Nat.beq (Nat.add 0 (Nat.mul n sz)) (0+cs.length)=true:=by
    show Nat.beq (0+n*sz) (0+cs.length)=true;rw[D];exact mK _
   rw[B];show Ve e sz ie i2 (.sl sz r 0 n) src H K=_;rw[f K];simp only;rw[Bf h2,C,Co];have c:(Nat.beq e e&&(Nat.beq sz sz&&(Nat.beq (Nat.add 0 (Nat.mul n sz)) (0+cs.length)&&(Nat.ble (Nat.mul (Nat.add n m) ie.bytes) 70368744177664&&Nat.ble (Nat.add n m) 70368744177664))))=true:=by
    rw[B,mK,mK];simp only[X',Kw,iS];exact⟨hb,j⟩
   rw[c];show Ym (Di 0 cs) ys _=_;rw[MD,Dh,BV,DT,C6];rfl
  ·have:=Aw (H:=upd H r .gone) (x:= .cells false e (cs++ys)) (by simp);rw[BC] at this;exact this
  ·have O:Lat H (upd H r .gone) (A8 (.sl sz r 0 n)):=Lat.upd H r .gone ⟨sz,0,n,rfl⟩;have J:=Lat.cons (upd H r .gone) (.cells false e (cs++ys)) (A8 (.sl sz r 0 n));rw[BC] at J;exact O.trans J (λ_ _ h=>h) (λ_ _ h=>h)
def yH (a:AV):∀n (K:List AV->Af),Yh n [a] K=K (List.replicate n a):=by
 intro n K;rw[Yg]
 congr 1
 induction n with
 |zero=>rfl
 |succ n ih=>simp[Xz,ih,l1c]
def uL {a z:AV} (hz:∀K:List AV->Af,GW ie.zero K=K [z]) (c:∀K:List AV->Af,GW a K=K [a]) (h1:AV.one a=true) (K:KV):Hf e 1 ie 1 [(0,1,a)] H K=K (.sl 1 (Ao H) 0 1) ((Ao H,.cells false e [a])::H):=by
 unfold Hf;rw[hz];show Yh 1 [z] (λcs=>dI [(0,1,a)] cs λb=>Ig H λs=>K (.sl 1 s 0 1) ((s,.cells false e b)::H))=_;rw[yH];show GW a (λvs=>HI vs 0 λn=>ck (Nat.beq n 1) (ck (Nu vs) (El 0 vs [z] λb=>Ig H λs=>K (.sl 1 s 0 1) ((s,.cells false e b)::H))))=_;rw[c];have:Nu [a]=true:=by rw[FI];simp[h1]
 show ck (Nu [a]) (Ig H λs=>K (.sl 1 s 0 1) ((s,.cells false e [a])::H))=_;rw[this,BV];rfl
def N9 {cs:List AV} (h:cs.length=n):B2 ((Ao H,.cells false e cs)::H) e 1 (.sl 1 (Ao H) 0 n) n cs:= .inr ⟨Ao H,false,rfl,Aw (by simp),by omega⟩
def A5C (l:List UInt8):(Ml l).all AV.one=true:=by simp[Ml,AV.one,Value.oneCell']
def PW (l:List UInt8):(Ml l).length=l.length:=by simp[Ml]
def S! (a b:List UInt8):Ml a++Ml b=Ml (a++b):=by simp[Ml]
end
end Go.Abs
end
