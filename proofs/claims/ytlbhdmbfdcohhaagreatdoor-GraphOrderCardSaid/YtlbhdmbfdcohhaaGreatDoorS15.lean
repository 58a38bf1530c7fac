import Derived.KernelRfl
import Derived.Test.YtlbhdmbfdcohhaaGreatDoorRows
import Derived.ProofKit
import Derived.Test.YtlbhdmbfdcohhaaGreatDoorS10
import Derived.Test.YtlbhdmbfdcohhaaGreatDoorS11
set_option linter.all false
set_option maxHeartbeats 100000000
noncomputable section
namespace Go.Proofs
open Go.Abs
set_option maxRecDepth 100000
def Xd:Js:= λL R a0 H K=>Ah R Ou [a0,(AV.v (.string ⟨⟨[45]⟩⟩))] H λa=>Ak Ae .eql a (AV.v (.string ⟨⟨[]⟩⟩)) λb=>BS b H (some (a,H)) λm g=>BS b g (AQ Ae m (AO g)) λn h=>BS b h (Ak Ab .gtr n (Av 200) (AO h)) λo i=>AL b Gb o λc=>BS c i (some (a,i)) λp e=>BS c e (Ah R A29 [p,(AV.v (.string ⟨⟨[48,49,50,51,52,53,54,55,56,57]⟩⟩))] e (AO e)) λq j=>BS c j (Ak Ae .neq q (AV.v (.string ⟨⟨[]⟩⟩)) (AO j)) λr f=>AL c Gb r λs=>Aw s (K Dr f) (Ak Ae .eql a0 (AV.v (.string ⟨⟨[48]⟩⟩)) λd=>BS d f (some (a,f)) λt k=>BS d k (Tr Ae Ae t (Av 0) (AO k)) λu l=>BS d l (Ak AE .neq u (AV.v (.int .u8 48)) (AO l)) λw x=>AL d Gb w λy=>K y x)
def A1K:LF:= λL R a0 a1 H K=>AJ Dl A6 H λa j=>AJ Dl A6 j λb e=>Ah R MN [a0] e λk=>GR .not k λc=>BS c e (some (a1,e)) λl f=>BS c f (Ah R MN [l] f (AO f)) λm i=>BS c i (GR .not m (AO i)) λn d=>AL c Gb n λo=>Aw o (B3 A6 [] λp=>B3 A6 [] λq=>CG A6 a p d λr=>CG A6 b q r λg=>Ar A6 a g λs=>Ar A6 b g λt=>K (AV.tup [s,t,Dr]) g) (Ah R T8 [a0] d λu=>Ah R T8 [a1] d λv=>CG A6 a u d λw=>CG A6 b v w λh=>Ar A6 a h λx=>Ar A6 b h λy=>K (AV.tup [x,y,Gb]) h)
def G7:Operand×Array Tmp×Code×Code:=Zd (C65) 0
def Rp:LF:= λL R a0 a1 H K=>DK GM a1 H λd j=>AJ DA Ab j λa b=>AQ Ag a0 λk=>Ar Ag d b λl=>AQ Ag l λm=>Ak Ab .neq k m λn=>Aw n (AQ Ag a0 λo=>Ar Ag d b λp=>AQ Ag p λq=>Ah R X2 [o,q] b λr=>CG Ab a r b λe=>Ar Ab a e λs=>K s e) (jn (λf t=>CG Ab f (Av 0) t λg=>Ar Ab f g λu=>K u g) λv=>Ah R Et [a0] b λh=>jn (λw x=>v w x) λi=>Zy R 33 h [(3,d),(4,a),(5,AV.dk),(6,AV.dk),(18,h),(19,AV.dk),(20,AV.dk),(21,AV.dk),(22,AV.dk),(23,AV.dk),(24,AV.dk),(25,AV.dk),(26,AV.dk),(27,AV.dk),(28,AV.dk),(29,AV.dk),(30,AV.dk),(31,AV.dk),(32,AV.dk)] (G7).2.1 (G7).2.2.1 (G7).2.2.2 b λy c=>Zg y (i a c) (Ar Ab a c λz=>K z c) (λaa=>@Bool.rec (λ_=>Aj) (none) (i a c) (Nat.beq aa 0)) (λ_=>none))
def Ic:Operand×Array Tmp×Code×Code:=Zd (C64) 0
def TL:LF:= λL R a0 a1 H K=>DK GM a1 H λo p=>AJ GM Ag p λa q=>AJ GM Ag q λd r=>AQ Ag a0 λi=>eMk DA 1 Ab i i r λs t=>CG Ag a s t λj=>jn (λe b f=>Ai (Ar Ag e f Az) λu=>Ea (R.call Im [u] f λv H=>some (v,H)) λw k=>Ai (Ar Ag b k Az) λg=>Ea (CG Ag e w k λH=>some (AV.v undef,H)) λah l=>Ea (CG Ag b g l λH=>some (AV.v undef,H)) λai h=>Pw (AX (Ar Ag b f Az) g) (Pw (AX (Ar Ag b l Az) g) (Ar Ag e h λx=>Ar Ag b h λy=>K (AV.tup [x,y]) h))) λz=>Ah R Et [a0] j λm=>jn (λaa ab ac=>z aa ab ac) λn=>Zy R 41 m [(3,o),(4,a),(5,d),(6,AV.dk),(7,AV.dk),(8,AV.dk),(9,AV.dk),(14,m),(15,AV.dk),(16,AV.dk),(17,AV.dk),(18,AV.dk),(19,AV.dk),(20,AV.dk),(21,AV.dk),(22,AV.dk),(23,AV.dk),(24,AV.dk),(25,AV.dk),(26,AV.dk),(27,AV.dk),(28,AV.dk),(29,AV.dk),(30,AV.dk),(31,AV.dk),(32,AV.dk),(33,AV.dk),(34,AV.dk),(35,AV.dk),(36,AV.dk),(37,AV.dk)] (Ic).2.1 (Ic).2.2.1 (Ic).2.2.2 j λad c=>Zg ad (n a d c) (Ar Ag a c λae=>Ar Ag d c λaf=>K (AV.tup [ae,af]) c) (λag=>@Bool.rec (λ_=>Aj) (none) (n a d c) (Nat.beq ag 0)) (λ_=>none)
def Ib:Operand×Array Tmp×Code×Code:=Zd (C63) 0
def TK:Js:= λL R a0 H K=>DK Dl a0 H λa c=>AM 1 a λj=>Ar Ag j c λk=>AQ Ag k λl=>Ak Ab .eql l (Av 0) λm=>Aw m (K (AV.tup [(AV.v (.string ⟨⟨[48]⟩⟩)),(Av 0)]) c) (AJ Ds Bx c λd e=>jn (λn o p=>R.call Do [o] p λf b=>AQ Ae f λq=>Ak Ab .gtr q (Av 200) λr=>Aw r (K (AV.tup [(AV.v (.string ⟨⟨[]⟩⟩)),(Av 30)]) b) (AM 0 n λs=>Ar It s b λt=>Aw t (Ak Ae .add (AV.v (.string ⟨⟨[45]⟩⟩)) f λu=>K (AV.tup [u,(Av 0)]) b) (K (AV.tup [f,(Av 0)]) b))) λw=>AM 1 a λx=>Ar Ag x e λy=>Ah R Et [y] e λh=>jn (λz aa ab=>w z aa ab) λi=>Zy R 43 h [(1,a),(2,(AV.v (.string ⟨⟨[]⟩⟩))),(3,(Av 0)),(4,d),(5,AV.dk),(6,AV.dk),(7,AV.dk),(15,h),(16,AV.dk),(17,AV.dk),(18,AV.dk),(19,AV.dk),(20,AV.dk),(21,AV.dk),(22,AV.dk),(23,AV.dk),(24,AV.dk),(25,AV.dk),(26,AV.dk),(27,AV.dk),(28,AV.dk),(29,AV.dk),(30,AV.dk),(31,AV.dk),(32,AV.dk)] (Ib).2.1 (Ib).2.2.1 (Ib).2.2.2 e λac g=>Zg ac (i a d g) (K (AV.tup [(AV.v (.string ⟨⟨[]⟩⟩)),(Av 0)]) g) (λad=>@Bool.rec (λ_=>Aj) (none) (i a d g) (Nat.beq ad 0)) (λ_=>none))
def DT (L:Nat) (R:Rt) (K:KV) (g:Hp→Aj) (ih:Lf):Lf:= λc d e a b=>Ak Ab .lss a e λh=>Aw h (B9 Ac d a λi=>Ar Ae i b λj=>Dy (E L) R c [j] b λk f=>GR .not k λl=>Aw l (K (AV.tup []) f) (Ak Ab .add a (Av 1) λm=>ih c d e m f)) (g b)
def CV (L:Nat) (R:Rt) (K:KV) (a:Hp→Aj) (n:Nat):Lf:=HZ z4N (DT L R K a) n
theorem Jx (L:Nat) (R:Rt) (K:KV) (a:Hp→Aj) (n:Nat):CV L R K a (n+1)=DT L R K a (CV L R K a n):=rfl
def Ej:LF:= λL R a0 a1 H K=>Ar Ac a1 H λa=>AQ Ac a λb=>jn (λc=>K (AV.tup []) c) λd=>CV L R K d L a0 a b (Av 0) H
def DD (L:Nat) (R:Rt) (K:KV) (g:Hp→Aj) (ih:Lf):Lf:= λc d e a b=>Ak Ab .lss a e λh=>Aw h (B9 Am c a λi=>Ar Af i b λj=>Dy (E L) R d [j] b λk f=>Aw k (K a f) (Ak Ab .add a (Av 1) λl=>ih c d e l f)) (g b)
def CJ (L:Nat) (R:Rt) (K:KV) (a:Hp→Aj) (n:Nat):Lf:=HZ z4N (DD L R K a) n
theorem IJ (L:Nat) (R:Rt) (K:KV) (a:Hp→Aj) (n:Nat):CJ L R K a (n+1)=DD L R K a (CJ L R K a n):=rfl
def DO:LF:= λL R a0 a1 H K=>jn (λa=>K (Av (-1)) a) λb=>AQ Am a0 λc=>jn (λd=>b d) λe=>CJ L R K e L a0 a1 c (Av 0) H
def YE (L:Nat) (R:Rt) (K:KV) (g:JN) (ih:KE):KE:= λd a b c=>AQ Ae a λh=>Ak Ab .gtr h (Av 0) λi=>Aw i (AQ Ae a λj=>Ak Ab .sub j (Av 4) λk=>eMM false (Av 0) k λe=>Dh Ae a (some e) none none λl=>Ah R A2a [l] c λf=>AN f 0 λm=>AN f 1 λw=>AM 1 b λn=>Ar Ag n c λo=>F3 DA 1 Ab 1 [(0,1,m)] c λp q=>DN DA 1 Ab Ag o p q λr s=>AM 1 b λt=>CG Ag t r s λu=>Dh Ae a none (some e) none λv=>ih d v b u) (g d b c)
def YD (L:Nat) (R:Rt) (K:KV) (a:JN) (n:Nat):KE:=HZ z3N (YE L R K a) n
def ZY:Js:= λL R a0 H K=>AJ Dl A6 H λi b=>Ah R Ou [a0,(AV.v (.string ⟨⟨[45]⟩⟩))] b λc=>AQ Ae c λj=>AQ Ae a0 λk=>Ak Ab .lss j k λl=>B3 A6 [(0,1,l)] λm=>AJ Dl A6 b λd n=>CG A6 d m n λo=>jn (λe a f=>AM 1 a λp=>Ar Ag p f λq=>R.call Im [q] f λr s=>AM 1 a λt=>CG Ag t r s λg=>Ar A6 a g λu=>CG A6 e u g λh=>Ar A6 e h λw=>K w h) λx=>jn (λy z aa=>x y z aa) λab=>YD L R K ab L i c d o
def K0:Js:= λL R a0 H K=>DK GM a0 H λa b=>K (AV.fn (.func Jp) [] [a]) b
def QG (L:Nat) (R:Rt) (K:KV) (k:J8) (ih:J8):J8:= λb d=>AQ Ag b λl=>Ak Ab .gtr l (Av 0) λa=>Bc a d (some (b,d)) λm e=>Bc a e (some (b,e)) λn f=>Bc a f (AQ Ag n (AO f)) λo g=>Bc a g (Ak Ab .sub o (Av 1) (AO g)) λp h=>Bc a h (B9 Ag m p (AO h)) λq c=>Bc a c (Ar Ab q c (AO c)) λr i=>Bc a i (Ak Ab .eql r (Av 0) (AO i)) λs j=>AL a s Dr λt=>Aw t (AQ Ag b λu=>Ak Ab .sub u (Av 1) λv=>Dh Ag b none (some v) none λw=>ih w j) (k b j)
def QF (L:Nat) (R:Rt) (K:KV) (a:J8) (n:Nat):J8:=HZ z1N (QG L R K a) n
def Ro:Js:= λL R a0 H K=>jn (λa b=>K a b) λc=>jn (λd e=>c d e) λf=>QF L R K f L a0 H
def V7:LF:= λL R a0 a1 H K=>DK GM a0 H λa c=>DK DA a1 c λd b=>Ar Ag a b λe=>AQ Ag e λf=>R.call Ox [f,(Av 0),(AV.fn (.func Sg) [] [a,d])] b λg h=>R.call Im [g] h λi j=>K i j
def QC:Y3N:= λL R a0 a1 a2 H K=>Ai (Ar Aa a1 H Az) λc=>Ai (Ak Ab .add a0 (Av 1) Az) λd=>Ea (Dy (E L) R c [d] H λv H=>some (v,H)) λe a=>Ai (Ar Ag a2 a Az) λb=>Ai (Ah R Io [e,b] a Az) λf=>Ai (Ak Ab .gtr f (Av 0) Az) λg=>Pw (AX (Ar Ag a2 H Az) b) (K g a)
def N0 (L:Nat) (R:Rt) (K:KV) (m:J8) (ih:QH):QH:= λf g h i b j=>Ak Ab .lss b f λc=>BS c j (some (g,j)) λn k=>BS c k (Ak Ab .neq n (Av 0) (AO k)) λo l=>AL c Gb o λp=>Aw p (Dy (E L) R h [b] l λq d=>Ak Ab .add q g λa=>jn (λr s t=>F3 DA 1 Ab 1 [(0,1,s)] t λu v=>DN DA 1 Ab Ag i u v λw x=>Ak Ab .add b (Av 1) λy=>ih f r h w y x) λe=>Ak Ab .lss a (Av 0) λz=>Aw z (Ak Ab .add a (Av 10000) λaa=>e (Av (-1)) aa d) (Ak Ab .geq a (Av 10000) λab=>Aw ab (Ak Ab .quo a (Av 10000) λac=>Ak Ab .rem a (Av 10000) λad=>e ac ad d) (e (Av 0) a d))) (m i l)
def Nz (L:Nat) (R:Rt) (K:KV) (a:J8) (n:Nat):QH:=HZ z5N (N0 L R K a) n
def Oj:Y3N:= λL R a0 a1 a2 H K=>Ak Ab .add a0 (Av 1) λa=>eMk DA 1 Ab (Av 0) a H λb c=>jn (λd e=>K d e) λf=>jn (λg h=>f g h) λi=>Nz L R K i L a0 a1 a2 b (Av 0) c
def V8:LF:= λL R a0 a1 H K=>AQ Ag a0 λa=>Ak Ab .lss a1 a λb=>Aw b (B9 Ag a0 a1 λc=>Ar Ab c H λd=>K d H) (K (Av 0) H)
def IM (L:Nat) (R:Rt) (K:KV) (f:Hp→Aj) (ih:KE):KE:= λc d a b=>Ak Ab .geq a (Av 0) λg=>Aw g (Ar Ag d b λh=>B9 Ag h a λi=>Ar Ab i b λj=>Dy (E L) R c [a,j] b λk e=>GR .not k λl=>Aw l (K (AV.tup []) e) (Ak Ab .sub a (Av 1) λm=>ih c d m e)) (f b)
def IL (L:Nat) (R:Rt) (K:KV) (a:Hp→Aj) (n:Nat):KE:=HZ z3N (IM L R K a) n
def Jl:LF:= λL R a0 a1 H K=>Ar Ag a1 H λa=>AQ Ag a λb=>Ak Ab .sub b (Av 1) λc=>jn (λd=>K (AV.tup []) d) λe=>IL L R K e L a0 a1 c H
def RW:Y3N:= λL R a0 a1 a2 H K=>Ai (Ar Ag a1 H Az) λa=>Ai (Ah R VE [a,a0] H Az) λb=>Ai (Ar Ab a2 H Az) λc=>Ai (Ak Ab .mul b c Az) λd=>K d H
end Go.Proofs
end
noncomputable section
namespace Go.Abs
open Go.RowKit
theorem A8j {α:Type}:∀(l:List α) (k:Nat) (a:α),k<l.length→splice l k [a]=l.set k a:=by
 intro l
 induction l with
 |nil=>intro k a h;simp at h
 |cons b l ih=>
  intro k a h
  cases k with
  |zero=>simp[splice]
  |succ k=>
   have:=ih k a (by simpa using h)
   simp only[splice,List.length_singleton] at this⊢
   simp[this]
theorem SC {α:Type} (l vs:List α) (h:vs.length=l.length):splice l 0 vs=vs:=by simp[splice,h]
theorem Bi {ty:Nat} {i:TI} {H:Hp} {cs:List AV} {K:KV} (hz:i.zero= .agg cs):AJ ty i H K=K (.ptr (A2 H) 0 0) ((A2 H,.cells true ty cs)::H):=by
 unfold AJ
 rw[hz,CQ,BZ];rfl
theorem A5n {ty:Nat} {v:Value} {H:Hp} {K:KV} (h1:AV.one (.v v)=true):DK ty (.v v) H K=K (.ptr (A2 H) 0 0) ((A2 H,.cells true ty [.v v])::H):=by
 unfold DK
 rw[CQ,Gg,BZ]
 have:(B8 (.v v)).all AV.one=true:=by simp[B8,h1]
 rw[this];rfl
theorem C32 {ty n:Nat} {cs:List AV} {H:Hp} {K:KV}:DK ty (.list n cs) H K=K (.ptr (A2 H) 0 0) ((A2 H,.cells true ty [.list n cs])::H):=by
 unfold DK
 rw[CQ,Gg,BZ];rfl
theorem Ft {ty:Nat} {cs:List AV} {H:Hp} {K:KV} (h1:cs.all AV.one=true):DK ty (.agg cs) H K=K (.ptr (A2 H) 0 0) ((A2 H,.cells true ty cs)::H):=by
 unfold DK
 rw[CQ,Gg,BZ]
 have:(B8 (.agg cs)).all AV.one=true:=h1
 rw[this];rfl
theorem AB {H:Hp} {r:Nat} {x:Row} {q:Bool} {e:Nat} {cs:List AV} (h:Aq H r=some x):Aq (upd H r (.cells q e cs)) r=some (.cells q e cs):=by
 rw[Ed h];rfl
theorem Ez {i:TI} {s p e:Nat} {q:Bool} {cs:List AV} {v:AV} {H:Hp} {K:Hp→Aj} (hl:Aq H s=some (.cells q e cs)) (hp:p<cs.length) (hz:i.size=1) (hv:B8 v=[v]) (h1:AV.one v=true):CG i (.ptr s p 0) v H K=K (upd H s (.cells q e (cs.set p v))):=by
 have e1:CG i (.ptr s p 0) v H K=JL H s λx=>A1a x λq e cs=>Hi v λvs=>GP vs 0 λn=>ck (Nat.beq n i.size) (ck (PZ vs) (E8 (Nat.add p 0) vs cs λcs'=>LL H s (.cells q e cs') K)):=rfl
 rw[e1,BI hl]
 show Hi v _=_
 rw[CQ,hv,Co,hz,Gg]
 have:[v].all AV.one=true:=by simp[h1]
 rw[this]
 show E8 p [v] cs _=_
 rw[Ka _ _ _ _ (by simp;omega),A8j _ _ _ hp,Dm]
theorem B7 {i:TI} {s e:Nat} {q:Bool} {cs vs:List AV} {H:Hp} {K:Hp→Aj} (hl:Aq H s=some (.cells q e cs)) (hp:vs.length=cs.length) (hz:i.size=cs.length) (h1:vs.all AV.one=true):CG i (.ptr s 0 0) (.agg vs) H K=K (upd H s (.cells q e vs)):=by
 have e1:CG i (.ptr s 0 0) (.agg vs) H K=JL H s λx=>A1a x λq e cs=>Hi (.agg vs) λvs=>GP vs 0 λn=>ck (Nat.beq n i.size) (ck (PZ vs) (E8 0 vs cs λcs'=>LL H s (.cells q e cs') K)):=rfl
 rw[e1,BI hl]
 show(Hi (.agg vs) λvs=>GP vs 0 λn=>ck (Nat.beq n i.size) (ck (PZ vs) (E8 0 vs cs λcs'=>LL H s (.cells q e cs') K)))=_
 have hc:B8 (.agg vs)=vs:=rfl
 rw[CQ,hc,Co,hz,Gg,h1,hp,KF,Zj]
 show E8 0 vs cs _=_
 rw[Ka _ _ _ _ (by omega),SC _ _ hp,Dm]
theorem Bq {t:TI} {H:Hp} {r e:Nat} {q:Bool} {cs:List AV} {K:AV→Aj} (h:t.d.isAgg=true) (hz:t.size=cs.length) (hl:Aq H r=some (.cells q e cs)):Ar t (.ptr r 0 0) H K=K (.agg cs):=by
 have:Ar t (.ptr r 0 0) H K=JL H r λx=>Ky x λ_ cs=>@Bool.rec (λ_=>Aj) (hdK (Dv 0 cs) K) (Gs t.size (Dv 0 cs) λc=>K (.agg c)) t.d.isAgg:=rfl
 rw[this,h,BI hl]
 show Gs t.size (Dv 0 cs) _=_
 rw[CE,l1n,hz,NB _ _ _ (by omega),l06]
theorem AP {t:TI} {H:Hp} {r p e:Nat} {q:Bool} {cs:List AV} {K:AV→Aj} (h:t.d.isAgg=false) (hl:Aq H r=some (.cells q e cs)) (hp:p<cs.length):Ar t (.ptr r p 0) H K=K (cs.getD p .dk):=by
 have:Ar t (.ptr r p 0) H K=JL H r λx=>Ky x λ_ cs=>@Bool.rec (λ_=>Aj) (hdK (Dv (Nat.add p 0) cs) K) (Gs t.size (Dv (Nat.add p 0) cs) λc=>K (.agg c)) t.d.isAgg:=rfl
 rw[this,h,BI hl]
 show hdK (Dv p cs) K=_
 rw[CE,l11 hp,TW,Kq hp];rfl
theorem DZ {t:TI} {m e s:Nat} {z:Int} (k:Nat) {K:AV→Aj} (hd:t.d= .array m e 1) (hz:z=k) (hk:k<m):B9 t (.ptr s 0 0) (.v (.int .i64 z)) K=K (.ptr s k 0):=by
 subst hz
 have e1:B9 t (.ptr s 0 0) (.v (.int .i64 (k:Int))) K=iN (k:Int) λn=>ck (Nat.blt n m) (fN (Nat.add 0 (Nat.mul n 1)) λq=>K (.ptr s q 0)):=by
  obtain⟨a,b,d,z⟩:=t;simp only at hd;subst hd;rfl
 rw[e1,Jn,Di]
 have h2:Nat.add 0 (Nat.mul k 1)=k:=by show 0+k*1=k;omega
 have h3:Nat.blt k m=true:=by rw[UK];exact hk
 rw[h2,h3];rfl
theorem B0t {t j:TI} {m e:Nat} {cs:List AV} {z:Int} (k:Nat) {K:AV→Aj} (hd:t.d= .array m e 1) (hj:j.d.isAgg=false) (hz:z=k) (hk:k<m) (hc:m≤cs.length):Tr t j (.agg cs) (.v (.int .i64 z)) K=K (cs.getD k .dk):=by
 subst hz
 have e1:Tr t j (.agg cs) (.v (.int .i64 (k:Int))) K=iN (k:Int) λn=>ck (Nat.blt n m) (Zo j (Dv (Nat.mul n 1) cs) K):=by
  obtain⟨a,b,d,z⟩:=t;simp only at hd;subst hd;rfl
 rw[e1,Jn]
 have h2:Nat.mul k 1=k:=l28 k
 have h3:Nat.blt k m=true:=by rw[UK];exact hk
 have h4:k<cs.length:=by omega
 rw[h2,h3,CE,l11 h4,TW,Kq h4]
 show Zo j (cs[k]::cs.drop (k+1)) K=_
 unfold Zo
 rw[hj];rfl
theorem HL {r p k:Nat} {K:AV→Aj}:Ko (.ptr r p k) K=K (.ptr r p k):=id rfl
theorem Vf {R:Rt} {r N:Nat} {args:List AV} {t:Tm} {ps:Array Tmp} {aZ bd:Code} {H:Hp} {K:KV} (hl:Aq H r=some (.loop N t ps aZ bd (some none))) (hp:A3I N ps.toList=true):
 QR R r args H K=rdK R.run N t ps args aZ bd H (λH2 K2=>ET H2 r true none K2) (λe H4=>match e with
  | .normal=>ET H4 r false (some none) λH5=>K (.v (.bool true)) H5
  | .ret=>ET H4 r false (some (some .ret)) λH5=>K (.v (.bool false)) H5
  | .exit id=>ET H4 r false (some (some (.exit id))) λH5=>K (.v (.bool false)) H5
  | .goto l=>ET H4 r false (some (some (.goto l))) λH5=>K (.v (.bool false)) H5
  |_=>none):=by
 unfold QR
 rw[BI hl]
 show ck (A3I N ps.toList) _=_
 rw[hp];rfl
theorem Vk {H:Hp} {r N:Nat} {t:Tm} {ps:Array Tmp} {aZ bd:Code} {to:Option (Option Code)} {K:Hp→Aj} (hl:Aq H r=some (.loop N t ps aZ bd (some none))):ET H r true to K=K (upd H r (.loop N t ps aZ bd to)):=by
 unfold ET
 rw[BI hl]
 show LL H r _ K=_
 rw[Dm]
theorem Vj {H:Hp} {r N:Nat} {t:Tm} {ps:Array Tmp} {aZ bd:Code} {to:Option (Option Code)} {K:Hp→Aj} (hl:Aq H r=some (.loop N t ps aZ bd none)):ET H r false to K=K (upd H r (.loop N t ps aZ bd to)):=by
 unfold ET
 rw[BI hl]
 show LL H r _ K=_
 rw[Dm]
theorem IU {H:Hp} {r N:Nat} {x:Row} {t:Tm} {ps:Array Tmp} {aZ bd:Code} {to:Option (Option Code)} (h:Aq H r=some x):Aq (upd H r (.loop N t ps aZ bd to)) r=some (.loop N t ps aZ bd to):=by
 rw[Ed h];rfl
def BT.allB {α:Type} (c:Nat→α→Bool):BT α→Bool
 | .leaf=>true
 | .node k v l r=>c k v&&(l.allB c&&r.allB c)
theorem B5E {α:Type} {c:Nat→α→Bool} {p:Nat→α→Prop} (h:∀k v,c k v=true→p k v):∀{b:BT α},b.allB c=true→b.All p:=by
 intro b
 induction b with
 |leaf=>intro _;trivial
 |node k v l r ihl ihr=>
  intro hb
  simp only[BT.allB,Jm] at hb
  exact⟨h k v hb.1,ihl hb.2.1,ihr hb.2.2⟩
def A8D:TD→Bool
 | .slice _ 0=>true
 | .array _ _ 0=>true
 |_=>false
def A9F:AV→AV→Bool
 | .v (.int k n),.v (.int k' n')=>decide (k=k')&&decide (n=n')
 | .v (.bool b),.v (.bool b')=>b==b'
 | .v (.string s),.v (.string s')=>s.data.toList.isEmpty&&s'.data.toList.isEmpty
 | .v (.slice none 0 0),.v (.slice none 0 0)=>true
 | .v (.pointer none),.v (.pointer none)=>true
 | .v (.map none),.v (.map none)=>true
 | .v .nilFunc,.v .nilFunc=>true
 | .v .nilIface,.v .nilIface=>true
 |_,_=>false
def XX:List AV→List AV→Bool
 |[],[]=>true
 |a::as',b::bs=>A9F a b&&XX as' bs
 |_,_=>false
def zeq:AV→AV→Bool
 | .agg cs,.agg ds=>XX cs ds
 |a,b=>A9F a b
theorem YZ {a b:AV} (h:A9F a b=true):a=b:=by
 unfold A9F at h
 split at h<;>simp at h<;>try rfl
 ·rw[h.1,h.2]
 ·rw[h]
 ·rename_i s s'
  obtain⟨⟨l⟩⟩:=s
  obtain⟨⟨l'⟩⟩:=s'
  simp at h
  rw[h.1,h.2]
theorem A4e:∀{as' bs:List AV},XX as' bs=true→as'=bs:=by
 intro as'
 induction as' with
 |nil=>intro bs h;cases bs<;>simp[XX] at h⊢
 |cons a as' ih=>
  intro bs h
  cases bs with
  |nil=>simp[XX] at h
  |cons b bs=>
   simp only[XX,Jm] at h
   rw[YZ h.1,ih h.2]
theorem B0I {a b:AV} (h:zeq a b=true):a=b:=by
 unfold zeq at h
 split at h
 ·rw[A4e h]
 ·exact YZ h
def C01:TD→TD→Bool
 | .int k,.int k'=>decide (k=k')
 | .bool,.bool=>true
 | .string,.string=>true
 | .pointer e,.pointer e'=>decide (e=e')
 | .slice e n,.slice e' n'=>decide (e=e')&&decide (n=n')
 | .array m e n,.array m' e' n'=>decide (m=m')&&decide (e=e')&&decide (n=n')
 | .struct fs,.struct fs'=>decide (fs=fs')
 | .map k e,.map k' e'=>decide (k=k')&&decide (e=e')
 | .func,.func=>true
 | .iface,.iface=>true
 | .other,.other=>true
 |_,_=>false
theorem A8f {a b:TD} (h:C01 a b=true):a=b:=by
 unfold C01 at h
 split at h<;>simp at h<;>try rfl
 ·rw[h]
 ·rw[h]
 ·rw[h.1,h.2]
 ·rw[h.1.1,h.1.2,h.2]
 ·rw[h]
 ·rw[h.1,h.2]
def tiB (P:Program) (t:Nat) (i:TI):Bool:=
 match P.info? t with
 |some x=>match P.underlying t,x.zero with
  |some u,some z=>Nat.beq x.size i.size&&(Nat.beq x.bytes i.bytes&&(C01 (td P u) i.d&&(zeq (ofV z) i.zero&& !A8D i.d)))
  |_,_=>false
 |none=>false
def TiR (P:Program) (t:Nat) (i:TI):Prop:=TOk1 P t i∧A8D i.d=false
theorem C00 {P:Program} (t:Nat) (i:TI) (h:tiB P t i=true):TiR P t i:=by
 unfold tiB at h
 split at h
 ·rename_i x hx
  split at h
  ·rename_i u z hu hz
   simp only[Jm,l14] at h
   obtain⟨h1,h2,h3,h4,h5⟩:=h
   refine⟨⟨?_,?_,?_⟩,h5⟩
   ·rw[hx];simp[VC h1,VC h2]
   ·rw[hx];simp[hz,B0I h4]
   ·rw[hu];simp[A8f h3]
  ·cases h
 ·cases h
def FnR (P:Program) (f:Nat) (x:XFn):Prop:=(P.funcs[f]?).map (λfn=>(fn.body,fn.ntmps,fn.results.toList,fn.name== "runtime.NumGoroutine"))=some (some x.c,x.n,x.rs,false)
theorem FnR.ex {P:Program} {f:Nat} {x:XFn} (h:FnR P f x):∃fn,P.funcs[f]?=some fn∧fn.body=some x.c∧fn.ntmps=x.n∧fn.results.toList=x.rs∧(fn.name== "runtime.NumGoroutine")=false:=by
 unfold FnR at h
 cases hf:P.funcs[f]? with
 |none=>rw[hf] at h;simp at h
 |some fn=>
  rw[hf] at h
  simp only[l0x,l0y,Prod.mk.injEq] at h
  exact⟨fn,rfl,h.1,h.2.1,h.2.2.1,h.2.2.2⟩
def DrR (E:XE) (_:Nat) (x:XFn):Prop:=Qy (A1c E ⟨false,x.lv,x.fz,x.n,x.rc⟩) x.c=true
def eqR (P:Program) (t:Nat) (ks:List LK):Prop:=leaves P 6 t=some (true,ks)∧P.eqGuardType P.depth t=false
def glR (_:Nat) (cs:List AV):Prop:=cs.all isV=true
def C53 (P:Program) (l:Lie):Prop:=liesAt P P.depth l.1 (l.2.1/P.cellsOf l.1) l.2.2.1 l.2.2.2 1=true∧(P.info? l.2.2.2).isSome=true
theorem C3R {E:XE} {P:Program} (hty:E.ty.All (TiR P)) (hT:E.T=E.ty.get) (hmix:P.follows .mixedOrders=true) (hgl:E.gl.All glR) (hf:E.ft.All (FnR P)) (hd:E.ft.All (DrR E)) (he:E.eqt.All (eqR P)) (hl:∀l∈E.lie,C53 P l) (hu:P.underlying E.up=some .unsafePointer) (hn:∀f,E.ne f=true→XN P f):XE.Ok A1c E P where
 ty:= λt i h=>(hty.get (by rw[hT] at h;exact h)).1
 pos:= λt i e esz h hh h0=>by
  have:=(hty.get (by rw[hT] at h;exact h)).2
  subst h0
  rcases hh with hh|⟨n,hh⟩<;>(rw[hh] at this;simp[A8D] at this)
 mix:=hmix
 gl:= λg cs h=>hgl.get h
 fn:= λf x h=>by
  obtain⟨fn,h1,h2,h3,h4,h5⟩:=(hf.get h).ex
  exact⟨fn,h1,h2,h3,h4,h5,hd.get h⟩
 eq:= λt ks h=>⟨(he.get h).1,(he.get h).2⟩
 lie:= λe n o u h=>hl _ h
 up:= λ_=>hu
 ne:=hn
theorem A58 {P:Program} {f:Nat} {fn:Func} (hf:P.funcs[f]?=some fn) (hname:(fn.name== "runtime.NumGoroutine")=false) (hb:fn.body.isNone=true) (hn:Extern.findNext fn=none) (he:Extern.find fn=some Extern.AbiNoEscape.same):XN P f:=by
 intro x w
 have:Extern.AbiNoEscape.same #[x]=pure x:=rfl
 have hname':¬fn.name= "runtime.NumGoroutine" :=by simpa using hname
 have hb':fn.body=none:=by simpa using hb
 simp[callFunc,hf,hname',hb',hn,he,mark,this]
 rfl
end Go.Abs
end
noncomputable section
namespace Go.Proofs.YtlbhdmbfdcohhaaGreatDoor
open Go.RowKit
set_option maxRecDepth 100000
theorem YI:Tryz.pinned.checked.prog.funcNamed Rows.graphOrderRow.func=some 3:=by kernel_rfl
theorem B8w:joinedFacts Tryz.prog 3 Tryz.f3 Rows.graphOrderSpec Rows.graphOrderRow=true:=by
 unfold joinedFacts
 simp only[Bool.and_eq_true]
 repeat' apply And.intro
 all_goals as_aux_lemma=>kernel_rfl
end Go.Proofs.YtlbhdmbfdcohhaaGreatDoor
end
