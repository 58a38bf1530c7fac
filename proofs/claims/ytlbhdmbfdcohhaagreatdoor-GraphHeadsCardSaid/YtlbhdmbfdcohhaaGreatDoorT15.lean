import Derived.KernelRfl
import Derived.Test.YtlbhdmbfdcohhaaGreatDoorRows
import Derived.ProofKit
import Derived.Test.YtlbhdmbfdcohhaaGreatDoorT10
import Derived.Test.YtlbhdmbfdcohhaaGreatDoorT11
set_option linter.all false
set_option maxHeartbeats 100000000
noncomputable section
namespace Go.Proofs
open Go.Abs
set_option maxRecDepth 100000
def Xh:Ng:= λL R a0 a1 H K=>Ai R UY [a0,a1] H λe=>Bc e 0 λh=>Bc e 1 λi=>Bc e 2 λj=>AJ Ei AH H λb k=>AJ Ei AH k λc l=>CI AH b h l λm=>CI AH c i m λd=>Iy .not j λn=>Aw n (K (Av 0) d) (AN 0 b λo=>Au NM o d λf=>Bh f d (AN 0 c (AO d)) λp g=>Bh f g (Au NM p g (AO g)) λq a=>AP f q D3 λr=>Aw r (AN 1 c λs=>Au Ag s a λt=>AN 1 b λu=>Au Ag u a λv=>Ai R Ir [t,v] a λw=>K w a) (AN 0 b λx=>Au NM x a λy=>Aw y (K (Av (-1)) a) (AN 0 c λz=>Au NM z a λaa=>Aw aa (K (Av 1) a) (AN 1 b λab=>Au Ag ab a λac=>AN 1 c λad=>Au Ag ad a λae=>Ai R Ir [ac,ae] a λaf=>K af a))))
def A1Y (L:Nat) (R:Rt) (K:KV) (e:JL) (ih:Ke):Ke:= λc a b=>AR Ag a λf=>Al Ab .gtr f (Av 0) λg=>Aw g (Ai R TU [c,a] b λd=>Bc d 0 λi=>Bc d 1 λh=>ih a h b) (e c b)
def A1X (L:Nat) (R:Rt) (K:KV) (a:JL) (n:Nat):Ke:=Ic z2N (A1Y L R K a) n
def A3d:Ng:= λL R a0 a1 H K=>Ai R UY [a0,a1] H λb=>Bc b 0 λg=>Bc b 1 λh=>Bc b 2 λi=>AJ Ei AH H λc j=>AJ Ei AH j λd k=>CI AH c g k λl=>CI AH d h l λa=>Iy .not i λm=>Aw m (K (AV.tup [(AV.v (.string ⟨⟨[]⟩⟩)),(Av 30)]) a) (Ah (AN 1 c Az) λn=>Ah (Au Ag n a Az) λo=>Ah (AN 1 d Az) λp=>Ah (Au Ag p a Az) λq=>jn (λr e=>B4 AH [(1,1,r)] λs=>Ai R TT [s] e λf=>Bc f 0 λt=>Bc f 1 λu=>K (AV.tup [t,u]) e) λw=>jn (λx y=>w x y) λz=>A1X L R K z L o q a)
def DE (L:Nat) (R:Rt) (K:KV) (g:Hp→Aj) (ih:Ld):Ld:= λc d e a b=>Al Ab .lss a e λh=>Aw h (BA A6 c a λi=>Au BO i b λj=>Dx (E L) R d [j] b λk f=>Aw k (K a f) (Al Ab .add a (Av 1) λl=>ih c d e l f)) (g b)
def CK (L:Nat) (R:Rt) (K:KV) (a:Hp→Aj) (n:Nat):Ld:=Ic z4N (DE L R K a) n
theorem IP (L:Nat) (R:Rt) (K:KV) (a:Hp→Aj) (n:Nat):CK L R K a (n+1)=DE L R K a (CK L R K a n):=rfl
def DP:Ng:= λL R a0 a1 H K=>jn (λa=>K (Av (-1)) a) λb=>AR A6 a0 λc=>jn (λd=>b d) λe=>CK L R K e L a0 a1 c (Av 0) H
def Gv:J6:= λL R a0 H K=>AR Ae a0 λa=>Al Ab .neq a (Av 32) λb=>K b H
def Fa:J6:= λL R a0 H K=>DS Bb a0 H λa b=>K (AV.fn (.func Er) [] [a]) b
def Li (L:Nat) (R:Rt) (K:KV) (g:Ke) (ih:Ld):Ld:= λe d b c a=>AR Ac b λh=>Al Ab .lss c h λi=>Aw i (jn (λj k=>Al Ab .add c (Av 1) λl=>ih e j b l k) λm=>jn (λn o=>m n o) λf=>Ah (BA Ac b c Az) λp=>Ah (Au Ae p a Az) λq=>Ah (Al Ab .sub c (Av 1) Az) λr=>Ah (BA Ac b r Az) λs=>Ah (Au Ae s a Az) λt=>Ah (Al Ae .neq q t Az) λu=>Aw u (BA Ac b c λv=>Au Ae v a λw=>BA Ac e d λx=>CI Ae x w a λy=>Al Ab .add d (Av 1) λz=>f z y) (f d a)) (g e d a)
def Lh (L:Nat) (R:Rt) (K:KV) (a:Ke) (n:Nat):Ld:=Ic z4N (Li L R K a) n
def EI (L:Nat) (R:Rt) (K:KV) (f:JL) (ih:Ld):Ld:= λa b g h c=>AR Ac a λi=>Al Ab .lss b i λj=>Aw j (Ah (BA Ac a b Az) λk=>Ah (Au Ae k c Az) λl=>Ah (Al Ab .sub b (Av 1) Az) λm=>Ah (BA Ac a m Az) λn=>Ah (Au Ae n c Az) λo=>Ah (Al Ae .eql l o Az) λp=>Aw p (DI Ac a (some b) none none λq=>jn (λd e r=>DI Ac d (some e) none none λs=>A7e 1 Ae s r λt=>DI Ac d none (some e) none λu=>K u t) λv=>jn (λw x y=>v w x y) λz=>Lh L R K z L a b q (Av 1) c) (Al Ab .add b (Av 1) λaa=>ih a aa g h c)) (f a c)
def Dy (L:Nat) (R:Rt) (K:KV) (a:JL) (n:Nat):Ld:=Ic z4N (EI L R K a) n
theorem Kv (L:Nat) (R:Rt) (K:KV) (a:JL) (n:Nat):Dy L R K a (n+1)=EI L R K a (Dy L R K a n):=rfl
def ER:J6:= λL R a0 H K=>AR Ac a0 λa=>Al Ab .lss a (Av 2) λb=>Aw b (K a0 H) (jn (λc d=>K c d) λe=>jn (λf g=>e f g) λh=>Dy L R K h L a0 (Av 1) AV.dk AV.dk H)
def VW (L:Nat) (R:Rt) (K:KV) (ih:Ke):Ke:= λd a b=>Au BR a b λh=>Al BR .lss h (AV.v (.int .u64 128)) λe=>Au BR a b λi=>Al BR .and i (AV.v (.int .u64 127)) λj=>F7 BR AD j λk=>Dx (E L) R d [k,e] b λl f=>Iy .not l λg=>BU g f (some (e,f)) λm c=>AP g Gr m λn=>Aw n (K (AV.tup []) c) (Au BR a c λo=>Al BR .shr o (AV.v (.int .u64 7)) λp=>CI BR a p c λq=>ih d a q)
def VV (L:Nat) (R:Rt) (K:KV) (n:Nat):Ke:=Ic z2N (VW L R K) n
def Xc:Ng:= λL R a0 a1 H K=>VV L R K L a0 a1 H
def Jz:J6:= λL R a0 H K=>DS A0 a0 H λb a=>Au Af b a λc=>Ai R GH [c] a λd=>Iy .not d λe=>K e a
def Dz:Ng:= λL R a0 a1 H K=>Ai R DQ [a0,a1] H λa=>Al Ab .geq a (Av 0) λb=>K b H
def Mp:J6:= λL R a0 H K=>Ai R Fm [] H λa=>B4 HM [(0,1,a),(1,1,a0)] λb=>DS OS b H λc d=>K c d
def HD:Ng:= λL R a0 a1 H K=>DS AG a1 H λe b=>Ah (Km a0 Az) λx=>Ah (AN 0 x Az) λn=>Ah (Au Dj n b Az) λf=>Ah (AN 0 e Az) λo=>Ah (Au Ab o b Az) λg=>Ah (A6J .i64 g λy=>TE Bk true f y b Az) λh=>Ah (Bc h 0 Az) λz=>Ah (Bc h 1 Az) λaa=>Ed (AJ Cb Bk b λv H=>some (v,H)) λi c=>Ed (CI Bk i z c λH=>some (AV.v undef,H)) λa2 p=>Pw (AX (Au Dj n c Az) f) (Pw (AX (Au Ab o c Az) g) (Pw (AX (A6J .i64 g λab=>TE Bk true f ab c Az) h) (Iy .not aa λa=>BU a p (some (a0,p)) λac j=>BU a j (Au Bk i j (AO j)) λad k=>BU a k (Au AE e k (AO k)) λae l=>BU a l (Ai R BC [ac,ad,ae] l (AO l)) λaf q=>BU a q (Iy .not af (AO q)) λag d=>AP a Gr ag λah=>Aw ah (K D3 d) (AN 2 i λai=>Au Aa ai d λaj=>Au AE e d λak=>Dx (E L) R aj [a0,ak] d λr al=>Bc r 0 λam=>Bc r 1 λan=>AJ A0 Af al λs ao=>CI Af s am ao λm=>Ah (Km a0 Az) λap=>Ah (AN 2 ap Az) λt=>Ah (Au Am t m Az) λu=>Ah (Au Af s m Az) λaq=>Ed (FG A0 20 Af 1 [(0,20,aq)] m λv H=>some (v,H)) λar w=>Ed (DN A0 20 Af Am u ar w λv H=>some (v,H)) λau av=>Ah (Km a0 Az) λaw=>Ah (AN 2 aw Az) λax=>Ed (CI Am ax au av λH=>some (AV.v undef,H)) λa3 ay=>Pw (AX (Au Am t w Az) u) (Al Ab .eql an (Av 0) λaz=>K az ay)))))
def FC:Ng:= λL R a0 a1 H K=>DS AG a1 H λd k=>AJ A0 Af k λb c=>AN 1 d λl=>Au Ay l c λm=>Ai R Ct [m] c λn=>Iy .not n λa=>BU a c (AN 3 d (AO c)) λo e=>BU a e (Au Af o e (AO e)) λp f=>BU a f (Ai R GH [p] f (AO f)) λq h=>BU a h (Iy .not q (AO h)) λr g=>AP a Gr r λs=>Aw s (B4 Af [] λt=>CI Af b t g λi=>Au Af b i λu=>K (AV.tup [u,(Av 90)]) i) (AN 3 d λv=>Au Af v g λw=>CI Af b w g λj=>Au Af b j λx=>K (AV.tup [x,(Av 0)]) j)
def HC:Ng:= λL R a0 a1 H K=>DS AG a1 H λb f=>AJ A0 Af f λc a=>Ah (Km a0 Az) λg=>Ah (AN 2 g Az) λh=>Ah (Au Am h a Az) λi=>Ah (AN 24 b Az) λj=>Ah (Au Ab j a Az) λk=>Ah (BA Am i k Az) λl=>Ah (Au Af l a Az) λm=>Ah (Km a0 Az) λn=>Ah (AN 2 n Az) λo=>Ah (Au Am o a Az) λp=>Ah (AN 25 b Az) λq=>Ah (Au Ab q a Az) λr=>Ah (BA Am p r Az) λs=>Ah (Au Af s a Az) λt=>Ah (Ai R Qp [m,t] a Az) λd=>Ah (Bc d 0 Az) λu=>Ah (Bc d 1 Az) λw=>Ed (CI Af c u a λH=>some (AV.v undef,H)) λy e=>Au Af c e λx=>K (AV.tup [x,w]) e
def XA1:Ng:= λL R a0 a1 H K=>DS AG a1 H λb f=>AJ A0 Af f λc a=>Ah (Km a0 Az) λg=>Ah (AN 2 g Az) λh=>Ah (Au Am h a Az) λi=>Ah (AN 24 b Az) λj=>Ah (Au Ab j a Az) λk=>Ah (BA Am i k Az) λl=>Ah (Au Af l a Az) λm=>Ah (Km a0 Az) λn=>Ah (AN 2 n Az) λo=>Ah (Au Am o a Az) λp=>Ah (AN 25 b Az) λq=>Ah (Au Ab q a Az) λr=>Ah (BA Am p r Az) λs=>Ah (Au Af s a Az) λt=>Ah (Ai R HT [m,t] a Az) λd=>Ah (Bc d 0 Az) λu=>Ah (Bc d 1 Az) λw=>Ed (CI Af c u a λH=>some (AV.v undef,H)) λy e=>Au Af c e λx=>K (AV.tup [x,w]) e
def FX:Ng:= λL R a0 a1 H K=>DS AG a1 H λb f=>AJ A0 Af f λc a=>Ah (Km a0 Az) λg=>Ah (AN 2 g Az) λh=>Ah (Au Am h a Az) λi=>Ah (AN 24 b Az) λj=>Ah (Au Ab j a Az) λk=>Ah (BA Am i k Az) λl=>Ah (Au Af l a Az) λm=>Ah (Km a0 Az) λn=>Ah (AN 2 n Az) λo=>Ah (Au Am o a Az) λp=>Ah (AN 25 b Az) λq=>Ah (Au Ab q a Az) λr=>Ah (BA Am p r Az) λs=>Ah (Au Af s a Az) λt=>Ah (Ai R Qr [m,t] a Az) λd=>Ah (Bc d 0 Az) λu=>Ah (Bc d 1 Az) λw=>Ed (CI Af c u a λH=>some (AV.v undef,H)) λy e=>Au Af c e λx=>K (AV.tup [x,w]) e
def FB:Ng:= λL R a0 a1 H K=>DS AG a1 H λb f=>AJ A0 Af f λc a=>Ah (Km a0 Az) λg=>Ah (AN 2 g Az) λh=>Ah (Au Am h a Az) λi=>Ah (AN 24 b Az) λj=>Ah (Au Ab j a Az) λk=>Ah (BA Am i k Az) λl=>Ah (Au Af l a Az) λm=>Ah (Km a0 Az) λn=>Ah (AN 2 n Az) λo=>Ah (Au Am o a Az) λp=>Ah (AN 25 b Az) λq=>Ah (Au Ab q a Az) λr=>Ah (BA Am p r Az) λs=>Ah (Au Af s a Az) λt=>Ah (Ai R Qs [m,t] a Az) λd=>Ah (Bc d 0 Az) λu=>Ah (Bc d 1 Az) λw=>Ed (CI Af c u a λH=>some (AV.v undef,H)) λy e=>Au Af c e λx=>K (AV.tup [x,w]) e
def GE:Ng:= λL R a0 a1 H K=>DS AG a1 H λb o=>AJ A0 Af o λc f=>AN 23 b λp=>Au Ab p f λq=>Al Ab .eql q (Av 0) λd=>BU d f (AN 23 b (AO f)) λr g=>BU d g (Au Ab r g (AO g)) λs i=>BU d i (Al Ab .lss s (Av (-4)) (AO i)) λt j=>AP d Gr t λe=>BU e j (AN 23 b (AO j)) λu h=>BU e h (Au Ab u h (AO h)) λw k=>BU e k (Al Ab .gtr w (Av 4) (AO k)) λx a=>AP e Gr x λy=>Aw y (B4 Af [] λz=>CI Af c z a λl=>Au Af c l λaa=>K (AV.tup [aa,(Av 90)]) l) (Ah (Km a0 Az) λab=>Ah (AN 2 ab Az) λac=>Ah (Au Am ac a Az) λad=>Ah (AN 24 b Az) λae=>Ah (Au Ab ae a Az) λaf=>Ah (BA Am ad af Az) λag=>Ah (Au Af ag a Az) λah=>Ah (AN 23 b Az) λai=>Ah (Au Ab ai a Az) λaj=>Ah (B4 Ef [(0,1,aj),(1,1,(Av 1))] Az) λak=>Ah (Ai R Qq [ah,ak] a Az) λm=>Ah (Bc m 0 Az) λal=>Ah (Bc m 1 Az) λam=>Ed (CI Af c al a λH=>some (AV.v undef,H)) λao n=>Au Af c n λan=>K (AV.tup [an,am]) n)
def Xg:J6:= λL R a0 H K=>Ai R Ot [a0,(AV.v (.string ⟨⟨[45]⟩⟩))] H λa=>Al Ae .eql a (AV.v (.string ⟨⟨[]⟩⟩)) λb=>BU b H (some (a,H)) λm g=>BU b g (AR Ae m (AO g)) λn h=>BU b h (Al Ab .gtr n (Av 200) (AO h)) λo i=>AP b Gr o λc=>BU c i (some (a,i)) λp e=>BU c e (Ai R A2a [p,(AV.v (.string ⟨⟨[48,49,50,51,52,53,54,55,56,57]⟩⟩))] e (AO e)) λq j=>BU c j (Al Ae .neq q (AV.v (.string ⟨⟨[]⟩⟩)) (AO j)) λr f=>AP c Gr r λs=>Aw s (K D3 f) (Al Ae .eql a0 (AV.v (.string ⟨⟨[48]⟩⟩)) λd=>BU d f (some (a,f)) λt k=>BU d k (Tv Ae Ae t (Av 0) (AO k)) λu l=>BU d l (Al AD .neq u (AV.v (.int .u8 48)) (AO l)) λw x=>AP d Gr w λy=>K y x)
def A1N:Ng:= λL R a0 a1 H K=>AJ Ei AH H λa j=>AJ Ei AH j λb e=>Ai R MP [a0] e λk=>Iy .not k λc=>BU c e (some (a1,e)) λl f=>BU c f (Ai R MP [l] f (AO f)) λm i=>BU c i (Iy .not m (AO i)) λn d=>AP c Gr n λo=>Aw o (B4 AH [] λp=>B4 AH [] λq=>CI AH a p d λr=>CI AH b q r λg=>Au AH a g λs=>Au AH b g λt=>K (AV.tup [s,t,D3]) g) (Ai R TB [a0] d λu=>Ai R TB [a1] d λv=>CI AH a u d λw=>CI AH b v w λh=>Au AH a h λx=>Au AH b h λy=>K (AV.tup [x,y,Gr]) h)
def GC:Operand×Array Tmp×Code×Code:=Zj (C68) 0
def Rp:Ng:= λL R a0 a1 H K=>DS GQ a1 H λd j=>AJ DK Ab j λa b=>AR Ag a0 λk=>Au Ag d b λl=>AR Ag l λm=>Al Ab .neq k m λn=>Aw n (AR Ag a0 λo=>Au Ag d b λp=>AR Ag p λq=>Ai R X6 [o,q] b λr=>CI Ab a r b λe=>Au Ab a e λs=>K s e) (jn (λf t=>CI Ab f (Av 0) t λg=>Au Ab f g λu=>K u g) λv=>Ai R Ey [a0] b λh=>jn (λw x=>v w x) λi=>ZB R 33 h [(3,d),(4,a),(5,AV.dk),(6,AV.dk),(18,h),(19,AV.dk),(20,AV.dk),(21,AV.dk),(22,AV.dk),(23,AV.dk),(24,AV.dk),(25,AV.dk),(26,AV.dk),(27,AV.dk),(28,AV.dk),(29,AV.dk),(30,AV.dk),(31,AV.dk),(32,AV.dk)] (GC).2.1 (GC).2.2.1 (GC).2.2.2 b λy c=>Zm y (i a c) (Au Ab a c λz=>K z c) (λaa=>@Bool.rec (λ_=>Aj) (none) (i a c) (Nat.beq aa 0)) (λ_=>none))
def Ig:Operand×Array Tmp×Code×Code:=Zj (C67) 0
def TN:Ng:= λL R a0 a1 H K=>DS GQ a1 H λo p=>AJ GQ Ag p λa q=>AJ GQ Ag q λd r=>AR Ag a0 λi=>eMk DK 1 Ab i i r λs t=>CI Ag a s t λj=>jn (λe b f=>Ah (Au Ag e f Az) λu=>Ed (R.call Iq [u] f λv H=>some (v,H)) λw k=>Ah (Au Ag b k Az) λg=>Ed (CI Ag e w k λH=>some (AV.v undef,H)) λah l=>Ed (CI Ag b g l λH=>some (AV.v undef,H)) λai h=>Pw (AX (Au Ag b f Az) g) (Pw (AX (Au Ag b l Az) g) (Au Ag e h λx=>Au Ag b h λy=>K (AV.tup [x,y]) h))) λz=>Ai R Ey [a0] j λm=>jn (λaa ab ac=>z aa ab ac) λn=>ZB R 41 m [(3,o),(4,a),(5,d),(6,AV.dk),(7,AV.dk),(8,AV.dk),(9,AV.dk),(14,m),(15,AV.dk),(16,AV.dk),(17,AV.dk),(18,AV.dk),(19,AV.dk),(20,AV.dk),(21,AV.dk),(22,AV.dk),(23,AV.dk),(24,AV.dk),(25,AV.dk),(26,AV.dk),(27,AV.dk),(28,AV.dk),(29,AV.dk),(30,AV.dk),(31,AV.dk),(32,AV.dk),(33,AV.dk),(34,AV.dk),(35,AV.dk),(36,AV.dk),(37,AV.dk)] (Ig).2.1 (Ig).2.2.1 (Ig).2.2.2 j λad c=>Zm ad (n a d c) (Au Ag a c λae=>Au Ag d c λaf=>K (AV.tup [ae,af]) c) (λag=>@Bool.rec (λ_=>Aj) (none) (n a d c) (Nat.beq ag 0)) (λ_=>none)
def Ie:Operand×Array Tmp×Code×Code:=Zj (C66) 0
def TM:J6:= λL R a0 H K=>DS Ei a0 H λa c=>AN 1 a λj=>Au Ag j c λk=>AR Ag k λl=>Al Ab .eql l (Av 0) λm=>Aw m (K (AV.tup [(AV.v (.string ⟨⟨[48]⟩⟩)),(Av 0)]) c) (AJ Dp Bw c λd e=>jn (λn o p=>R.call Dl [o] p λf b=>AR Ae f λq=>Al Ab .gtr q (Av 200) λr=>Aw r (K (AV.tup [(AV.v (.string ⟨⟨[]⟩⟩)),(Av 30)]) b) (AN 0 n λs=>Au NM s b λt=>Aw t (Al Ae .add (AV.v (.string ⟨⟨[45]⟩⟩)) f λu=>K (AV.tup [u,(Av 0)]) b) (K (AV.tup [f,(Av 0)]) b))) λw=>AN 1 a λx=>Au Ag x e λy=>Ai R Ey [y] e λh=>jn (λz aa ab=>w z aa ab) λi=>ZB R 43 h [(1,a),(2,(AV.v (.string ⟨⟨[]⟩⟩))),(3,(Av 0)),(4,d),(5,AV.dk),(6,AV.dk),(7,AV.dk),(15,h),(16,AV.dk),(17,AV.dk),(18,AV.dk),(19,AV.dk),(20,AV.dk),(21,AV.dk),(22,AV.dk),(23,AV.dk),(24,AV.dk),(25,AV.dk),(26,AV.dk),(27,AV.dk),(28,AV.dk),(29,AV.dk),(30,AV.dk),(31,AV.dk),(32,AV.dk)] (Ie).2.1 (Ie).2.2.1 (Ie).2.2.2 e λac g=>Zm ac (i a d g) (K (AV.tup [(AV.v (.string ⟨⟨[]⟩⟩)),(Av 0)]) g) (λad=>@Bool.rec (λ_=>Aj) (none) (i a d g) (Nat.beq ad 0)) (λ_=>none))
def DU (L:Nat) (R:Rt) (K:KV) (g:Hp→Aj) (ih:Ld):Ld:= λc d e a b=>Al Ab .lss a e λh=>Aw h (BA Ac d a λi=>Au Ae i b λj=>Dx (E L) R c [j] b λk f=>Iy .not k λl=>Aw l (K (AV.tup []) f) (Al Ab .add a (Av 1) λm=>ih c d e m f)) (g b)
def CV (L:Nat) (R:Rt) (K:KV) (a:Hp→Aj) (n:Nat):Ld:=Ic z4N (DU L R K a) n
theorem Ju (L:Nat) (R:Rt) (K:KV) (a:Hp→Aj) (n:Nat):CV L R K a (n+1)=DU L R K a (CV L R K a n):=rfl
def Eo:Ng:= λL R a0 a1 H K=>Au Ac a1 H λa=>AR Ac a λb=>jn (λc=>K (AV.tup []) c) λd=>CV L R K d L a0 a b (Av 0) H
def DD (L:Nat) (R:Rt) (K:KV) (g:Hp→Aj) (ih:Ld):Ld:= λc d e a b=>Al Ab .lss a e λh=>Aw h (BA Am c a λi=>Au Af i b λj=>Dx (E L) R d [j] b λk f=>Aw k (K a f) (Al Ab .add a (Av 1) λl=>ih c d e l f)) (g b)
def CJ (L:Nat) (R:Rt) (K:KV) (a:Hp→Aj) (n:Nat):Ld:=Ic z4N (DD L R K a) n
theorem IN (L:Nat) (R:Rt) (K:KV) (a:Hp→Aj) (n:Nat):CJ L R K a (n+1)=DD L R K a (CJ L R K a n):=rfl
def DO:Ng:= λL R a0 a1 H K=>jn (λa=>K (Av (-1)) a) λb=>AR Am a0 λc=>jn (λd=>b d) λe=>CJ L R K e L a0 a1 c (Av 0) H
def YK (L:Nat) (R:Rt) (K:KV) (g:Ke) (ih:KD):KD:= λd a b c=>AR Ae a λh=>Al Ab .gtr h (Av 0) λi=>Aw i (AR Ae a λj=>Al Ab .sub j (Av 4) λk=>eMM false (Av 0) k λe=>DI Ae a (some e) none none λl=>Ai R A2b [l] c λf=>Bc f 0 λm=>Bc f 1 λw=>AN 1 b λn=>Au Ag n c λo=>FG DK 1 Ab 1 [(0,1,m)] c λp q=>DN DK 1 Ab Ag o p q λr s=>AN 1 b λt=>CI Ag t r s λu=>DI Ae a none (some e) none λv=>ih d v b u) (g d b c)
def YJ (L:Nat) (R:Rt) (K:KV) (a:Ke) (n:Nat):KD:=Ic z3N (YK L R K a) n
def A01:J6:= λL R a0 H K=>AJ Ei AH H λi b=>Ai R Ot [a0,(AV.v (.string ⟨⟨[45]⟩⟩))] b λc=>AR Ae c λj=>AR Ae a0 λk=>Al Ab .lss j k λl=>B4 AH [(0,1,l)] λm=>AJ Ei AH b λd n=>CI AH d m n λo=>jn (λe a f=>AN 1 a λp=>Au Ag p f λq=>R.call Iq [q] f λr s=>AN 1 a λt=>CI Ag t r s λg=>Au AH a g λu=>CI AH e u g λh=>Au AH e h λw=>K w h) λx=>jn (λy z aa=>x y z aa) λab=>YJ L R K ab L i c d o
def Kx:J6:= λL R a0 H K=>DS GQ a0 H λa b=>K (AV.fn (.func Jn) [] [a]) b
def QF (L:Nat) (R:Rt) (K:KV) (k:JL) (ih:JL):JL:= λb d=>AR Ag b λl=>Al Ab .gtr l (Av 0) λa=>Bh a d (some (b,d)) λm e=>Bh a e (some (b,e)) λn f=>Bh a f (AR Ag n (AO f)) λo g=>Bh a g (Al Ab .sub o (Av 1) (AO g)) λp h=>Bh a h (BA Ag m p (AO h)) λq c=>Bh a c (Au Ab q c (AO c)) λr i=>Bh a i (Al Ab .eql r (Av 0) (AO i)) λs j=>AP a s D3 λt=>Aw t (AR Ag b λu=>Al Ab .sub u (Av 1) λv=>DI Ag b none (some v) none λw=>ih w j) (k b j)
def QE (L:Nat) (R:Rt) (K:KV) (a:JL) (n:Nat):JL:=Ic z1N (QF L R K a) n
def Ro:J6:= λL R a0 H K=>jn (λa b=>K a b) λc=>jn (λd e=>c d e) λf=>QE L R K f L a0 H
def VB:Ng:= λL R a0 a1 H K=>DS GQ a0 H λa c=>DS DK a1 c λd b=>Au Ag a b λe=>AR Ag e λf=>R.call Ow [f,(Av 0),(AV.fn (.func Si) [] [a,d])] b λg h=>R.call Iq [g] h λi j=>K i j
def QC:Y3N:= λL R a0 a1 a2 H K=>Ah (Au Aa a1 H Az) λc=>Ah (Al Ab .add a0 (Av 1) Az) λd=>Ed (Dx (E L) R c [d] H λv H=>some (v,H)) λe a=>Ah (Au Ag a2 a Az) λb=>Ah (Ai R Ir [e,b] a Az) λf=>Ah (Al Ab .gtr f (Av 0) Az) λg=>Pw (AX (Au Ag a2 H Az) b) (K g a)
def Nz (L:Nat) (R:Rt) (K:KV) (m:JL) (ih:QG):QG:= λf g h i b j=>Al Ab .lss b f λc=>BU c j (some (g,j)) λn k=>BU c k (Al Ab .neq n (Av 0) (AO k)) λo l=>AP c Gr o λp=>Aw p (Dx (E L) R h [b] l λq d=>Al Ab .add q g λa=>jn (λr s t=>FG DK 1 Ab 1 [(0,1,s)] t λu v=>DN DK 1 Ab Ag i u v λw x=>Al Ab .add b (Av 1) λy=>ih f r h w y x) λe=>Al Ab .lss a (Av 0) λz=>Aw z (Al Ab .add a (Av 10000) λaa=>e (Av (-1)) aa d) (Al Ab .geq a (Av 10000) λab=>Aw ab (Al Ab .quo a (Av 10000) λac=>Al Ab .rem a (Av 10000) λad=>e ac ad d) (e (Av 0) a d))) (m i l)
def Ny (L:Nat) (R:Rt) (K:KV) (a:JL) (n:Nat):QG:=Ic z5N (Nz L R K a) n
def Oj:Y3N:= λL R a0 a1 a2 H K=>Al Ab .add a0 (Av 1) λa=>eMk DK 1 Ab (Av 0) a H λb c=>jn (λd e=>K d e) λf=>jn (λg h=>f g h) λi=>Ny L R K i L a0 a1 a2 b (Av 0) c
def VC:Ng:= λL R a0 a1 H K=>AR Ag a0 λa=>Al Ab .lss a1 a λb=>Aw b (BA Ag a0 a1 λc=>Au Ab c H λd=>K d H) (K (Av 0) H)
def IR (L:Nat) (R:Rt) (K:KV) (f:Hp→Aj) (ih:KD):KD:= λc d a b=>Al Ab .geq a (Av 0) λg=>Aw g (Au Ag d b λh=>BA Ag h a λi=>Au Ab i b λj=>Dx (E L) R c [a,j] b λk e=>Iy .not k λl=>Aw l (K (AV.tup []) e) (Al Ab .sub a (Av 1) λm=>ih c d m e)) (f b)
def IQ (L:Nat) (R:Rt) (K:KV) (a:Hp→Aj) (n:Nat):KD:=Ic z3N (IR L R K a) n
def Jl:Ng:= λL R a0 a1 H K=>Au Ag a1 H λa=>AR Ag a λb=>Al Ab .sub b (Av 1) λc=>jn (λd=>K (AV.tup []) d) λe=>IQ L R K e L a0 a1 c H
def RX:Y3N:= λL R a0 a1 a2 H K=>Ah (Au Ag a1 H Az) λa=>Ah (Ai R VI [a,a0] H Az) λb=>Ah (Au Ab a2 H Az) λc=>Ah (Al Ab .mul b c Az) λd=>K d H
end Go.Proofs
end
noncomputable section
namespace Go.Abs
open Go.RowKit
theorem A8d {α:Type}:∀(l:List α) (k:Nat) (a:α),k<l.length→splice l k [a]=l.set k a:=by
 intro l
 induction l with
 |nil=>intro k a h;simp at h
 |cons b l ih=>
  intro k a h
  cases k with
  |zero=>simp[splice]
  |succ k=>
   have:=ih k a (by simpa using h)
   simp only[splice,List.length_singleton] at this⊢
   simp[this]
theorem SE {α:Type} (l vs:List α) (h:vs.length=l.length):splice l 0 vs=vs:=by simp[splice,h]
theorem Bi {ty:Nat} {i:TI} {H:Hp} {cs:List AV} {K:KV} (hz:i.zero= .agg cs):AJ ty i H K=K (.ptr (A2 H) 0 0) ((A2 H,.cells true ty cs)::H):=by
 unfold AJ
 rw[hz,CQ,Ca];rfl
theorem A5i {ty:Nat} {v:Value} {H:Hp} {K:KV} (h1:AV.one (.v v)=true):DS ty (.v v) H K=K (.ptr (A2 H) 0 0) ((A2 H,.cells true ty [.v v])::H):=by
 unfold DS
 rw[CQ,Gk,Ca]
 have:(B9 (.v v)).all AV.one=true:=by simp[B9,h1]
 rw[this];rfl
theorem C32 {ty n:Nat} {cs:List AV} {H:Hp} {K:KV}:DS ty (.list n cs) H K=K (.ptr (A2 H) 0 0) ((A2 H,.cells true ty [.list n cs])::H):=by
 unfold DS
 rw[CQ,Gk,Ca];rfl
theorem Fz {ty:Nat} {cs:List AV} {H:Hp} {K:KV} (h1:cs.all AV.one=true):DS ty (.agg cs) H K=K (.ptr (A2 H) 0 0) ((A2 H,.cells true ty cs)::H):=by
 unfold DS
 rw[CQ,Gk,Ca]
 have:(B9 (.agg cs)).all AV.one=true:=h1
 rw[this];rfl
theorem A9 {H:Hp} {r:Nat} {x:Row} {q:Bool} {e:Nat} {cs:List AV} (h:Aq H r=some x):Aq (upd H r (.cells q e cs)) r=some (.cells q e cs):=by
 rw[Dr h];rfl
theorem E4 {i:TI} {s p e:Nat} {q:Bool} {cs:List AV} {v:AV} {H:Hp} {K:Hp→Aj} (hl:Aq H s=some (.cells q e cs)) (hp:p<cs.length) (hz:i.size=1) (hv:B9 v=[v]) (h1:AV.one v=true):CI i (.ptr s p 0) v H K=K (upd H s (.cells q e (cs.set p v))):=by
 have e1:CI i (.ptr s p 0) v H K=J3 H s λx=>A1d x λq e cs=>Ho v λvs=>GS vs 0 λn=>ck (Nat.beq n i.size) (ck (PZ vs) (EE (Nat.add p 0) vs cs λcs'=>Lx H s (.cells q e cs') K)):=rfl
 rw[e1,B5 hl]
 show Ho v _=_
 rw[CQ,hv,Cq,hz,Gk]
 have:[v].all AV.one=true:=by simp[h1]
 rw[this]
 show EE p [v] cs _=_
 rw[JX _ _ _ _ (by simp;omega),A8d _ _ _ hp,Db]
theorem B8 {i:TI} {s e:Nat} {q:Bool} {cs vs:List AV} {H:Hp} {K:Hp→Aj} (hl:Aq H s=some (.cells q e cs)) (hp:vs.length=cs.length) (hz:i.size=cs.length) (h1:vs.all AV.one=true):CI i (.ptr s 0 0) (.agg vs) H K=K (upd H s (.cells q e vs)):=by
 have e1:CI i (.ptr s 0 0) (.agg vs) H K=J3 H s λx=>A1d x λq e cs=>Ho (.agg vs) λvs=>GS vs 0 λn=>ck (Nat.beq n i.size) (ck (PZ vs) (EE 0 vs cs λcs'=>Lx H s (.cells q e cs') K)):=rfl
 rw[e1,B5 hl]
 show(Ho (.agg vs) λvs=>GS vs 0 λn=>ck (Nat.beq n i.size) (ck (PZ vs) (EE 0 vs cs λcs'=>Lx H s (.cells q e cs') K)))=_
 have hc:B9 (.agg vs)=vs:=rfl
 rw[CQ,hc,Cq,hz,Gk,h1,hp,KN,Zq]
 show EE 0 vs cs _=_
 rw[JX _ _ _ _ (by omega),SE _ _ hp,Db]
theorem Br {t:TI} {H:Hp} {r e:Nat} {q:Bool} {cs:List AV} {K:AV→Aj} (h:t.d.isAgg=true) (hz:t.size=cs.length) (hl:Aq H r=some (.cells q e cs)):Au t (.ptr r 0 0) H K=K (.agg cs):=by
 have:Au t (.ptr r 0 0) H K=J3 H r λx=>Kw x λ_ cs=>@Bool.rec (λ_=>Aj) (hdK (D4 0 cs) K) (Gx t.size (D4 0 cs) λc=>K (.agg c)) t.d.isAgg:=rfl
 rw[this,h,B5 hl]
 show Gx t.size (D4 0 cs) _=_
 rw[CL,l1n,hz,N9 _ _ _ (by omega),l06]
theorem AK {t:TI} {H:Hp} {r p e:Nat} {q:Bool} {cs:List AV} {K:AV→Aj} (h:t.d.isAgg=false) (hl:Aq H r=some (.cells q e cs)) (hp:p<cs.length):Au t (.ptr r p 0) H K=K (cs.getD p .dk):=by
 have:Au t (.ptr r p 0) H K=J3 H r λx=>Kw x λ_ cs=>@Bool.rec (λ_=>Aj) (hdK (D4 (Nat.add p 0) cs) K) (Gx t.size (D4 (Nat.add p 0) cs) λc=>K (.agg c)) t.d.isAgg:=rfl
 rw[this,h,B5 hl]
 show hdK (D4 p cs) K=_
 rw[CL,l11 hp,Ua,Kn hp];rfl
theorem Ec {t:TI} {m e s:Nat} {z:Int} (k:Nat) {K:AV→Aj} (hd:t.d= .array m e 1) (hz:z=k) (hk:k<m):BA t (.ptr s 0 0) (.v (.int .i64 z)) K=K (.ptr s k 0):=by
 subst hz
 have e1:BA t (.ptr s 0 0) (.v (.int .i64 (k:Int))) K=iN (k:Int) λn=>ck (Nat.blt n m) (fN (Nat.add 0 (Nat.mul n 1)) λq=>K (.ptr s q 0)):=by
  obtain⟨a,b,d,z⟩:=t;simp only at hd;subst hd;rfl
 rw[e1,JD,Dt]
 have h2:Nat.add 0 (Nat.mul k 1)=k:=by show 0+k*1=k;omega
 have h3:Nat.blt k m=true:=by rw[UM];exact hk
 rw[h2,h3];rfl
theorem B0p {t j:TI} {m e:Nat} {cs:List AV} {z:Int} (k:Nat) {K:AV→Aj} (hd:t.d= .array m e 1) (hj:j.d.isAgg=false) (hz:z=k) (hk:k<m) (hc:m≤cs.length):Tv t j (.agg cs) (.v (.int .i64 z)) K=K (cs.getD k .dk):=by
 subst hz
 have e1:Tv t j (.agg cs) (.v (.int .i64 (k:Int))) K=iN (k:Int) λn=>ck (Nat.blt n m) (Zu j (D4 (Nat.mul n 1) cs) K):=by
  obtain⟨a,b,d,z⟩:=t;simp only at hd;subst hd;rfl
 rw[e1,JD]
 have h2:Nat.mul k 1=k:=l28 k
 have h3:Nat.blt k m=true:=by rw[UM];exact hk
 have h4:k<cs.length:=by omega
 rw[h2,h3,CL,l11 h4,Ua,Kn h4]
 show Zu j (cs[k]::cs.drop (k+1)) K=_
 unfold Zu
 rw[hj];rfl
theorem HO {r p k:Nat} {K:AV→Aj}:Km (.ptr r p k) K=K (.ptr r p k):=id rfl
theorem RB {R:Rt} {r N:Nat} {args:List AV} {t:Tm} {ps:Array Tmp} {aZ bd:Code} {H:Hp} {K:KV} (hl:Aq H r=some (.loop N t ps aZ bd (some none))) (hp:A3K N ps.toList=true):
 P0 R r args H K=rdK R.run N t ps args aZ bd H (λH2 K2=>EC H2 r true none K2) (λe H4=>match e with
  | .normal=>EC H4 r false (some none) λH5=>K (.v (.bool true)) H5
  | .ret=>EC H4 r false (some (some .ret)) λH5=>K (.v (.bool false)) H5
  | .exit id=>EC H4 r false (some (some (.exit id))) λH5=>K (.v (.bool false)) H5
  | .goto l=>EC H4 r false (some (some (.goto l))) λH5=>K (.v (.bool false)) H5
  |_=>none):=by
 unfold P0
 rw[B5 hl]
 show ck (A3K N ps.toList) _=_
 rw[hp];rfl
theorem RM {H:Hp} {r N:Nat} {t:Tm} {ps:Array Tmp} {aZ bd:Code} {to:Option (Option Code)} {K:Hp→Aj} (hl:Aq H r=some (.loop N t ps aZ bd (some none))):EC H r true to K=K (upd H r (.loop N t ps aZ bd to)):=by
 unfold EC
 rw[B5 hl]
 show Lx H r _ K=_
 rw[Db]
theorem RL {H:Hp} {r N:Nat} {t:Tm} {ps:Array Tmp} {aZ bd:Code} {to:Option (Option Code)} {K:Hp→Aj} (hl:Aq H r=some (.loop N t ps aZ bd none)):EC H r false to K=K (upd H r (.loop N t ps aZ bd to)):=by
 unfold EC
 rw[B5 hl]
 show Lx H r _ K=_
 rw[Db]
theorem Hd {H:Hp} {r N:Nat} {x:Row} {t:Tm} {ps:Array Tmp} {aZ bd:Code} {to:Option (Option Code)} (h:Aq H r=some x):Aq (upd H r (.loop N t ps aZ bd to)) r=some (.loop N t ps aZ bd to):=by
 rw[Dr h];rfl
def BT.allB {α:Type} (c:Nat→α→Bool):BT α→Bool
 | .leaf=>true
 | .node k v l r=>c k v&&(l.allB c&&r.allB c)
theorem B5G {α:Type} {c:Nat→α→Bool} {p:Nat→α→Prop} (h:∀k v,c k v=true→p k v):∀{b:BT α},b.allB c=true→b.All p:=by
 intro b
 induction b with
 |leaf=>intro _;trivial
 |node k v l r ihl ihr=>
  intro hb
  simp only[BT.allB,Jq] at hb
  exact⟨h k v hb.1,ihl hb.2.1,ihr hb.2.2⟩
def A8w:TD→Bool
 | .slice _ 0=>true
 | .array _ _ 0=>true
 |_=>false
def A9z:AV→AV→Bool
 | .v (.int k n),.v (.int k' n')=>decide (k=k')&&decide (n=n')
 | .v (.bool b),.v (.bool b')=>b==b'
 | .v (.string s),.v (.string s')=>s.data.toList.isEmpty&&s'.data.toList.isEmpty
 | .v (.slice none 0 0),.v (.slice none 0 0)=>true
 | .v (.pointer none),.v (.pointer none)=>true
 | .v (.map none),.v (.map none)=>true
 | .v .nilFunc,.v .nilFunc=>true
 | .v .nilIface,.v .nilIface=>true
 |_,_=>false
def Yb:List AV→List AV→Bool
 |[],[]=>true
 |a::as',b::bs=>A9z a b&&Yb as' bs
 |_,_=>false
def zeq:AV→AV→Bool
 | .agg cs,.agg ds=>Yb cs ds
 |a,b=>A9z a b
theorem Ze {a b:AV} (h:A9z a b=true):a=b:=by
 unfold A9z at h
 split at h<;>simp at h<;>try rfl
 ·rw[h.1,h.2]
 ·rw[h]
 ·rename_i s s'
  obtain⟨⟨l⟩⟩:=s
  obtain⟨⟨l'⟩⟩:=s'
  simp at h
  rw[h.1,h.2]
theorem A4g:∀{as' bs:List AV},Yb as' bs=true→as'=bs:=by
 intro as'
 induction as' with
 |nil=>intro bs h;cases bs<;>simp[Yb] at h⊢
 |cons a as' ih=>
  intro bs h
  cases bs with
  |nil=>simp[Yb] at h
  |cons b bs=>
   simp only[Yb,Jq] at h
   rw[Ze h.1,ih h.2]
theorem B0E {a b:AV} (h:zeq a b=true):a=b:=by
 unfold zeq at h
 split at h
 ·rw[A4g h]
 ·exact Ze h
def B9Z:TD→TD→Bool
 | .int k,.int k'=>decide (k=k')
 | .bool,.bool=>true
 | .string,.string=>true
 | .pointer e,.pointer e'=>decide (e=e')
 | .slice e n,.slice e' n'=>decide (e=e')&&decide (n=n')
 | .array m e n,.array m' e' n'=>decide (m=m')&&decide (e=e')&&decide (n=n')
 | .struct fs,.struct fs'=>decide (fs=fs')
 | .map k e,.map k' e'=>decide (k=k')&&decide (e=e')
 | .func,.func=>true
 | .iface,.iface=>true
 | .other,.other=>true
 |_,_=>false
theorem A89 {a b:TD} (h:B9Z a b=true):a=b:=by
 unfold B9Z at h
 split at h<;>simp at h<;>try rfl
 ·rw[h]
 ·rw[h]
 ·rw[h.1,h.2]
 ·rw[h.1.1,h.1.2,h.2]
 ·rw[h]
 ·rw[h.1,h.2]
def tiB (P:Program) (t:Nat) (i:TI):Bool:=
 match P.info? t with
 |some x=>match P.underlying t,x.zero with
  |some u,some z=>Nat.beq x.size i.size&&(Nat.beq x.bytes i.bytes&&(B9Z (td P u) i.d&&(zeq (ofV z) i.zero&& !A8w i.d)))
  |_,_=>false
 |none=>false
def TiR (P:Program) (t:Nat) (i:TI):Prop:=TOk1 P t i∧A8w i.d=false
theorem B9Y {P:Program} (t:Nat) (i:TI) (h:tiB P t i=true):TiR P t i:=by
 unfold tiB at h
 split at h
 ·rename_i x hx
  split at h
  ·rename_i u z hu hz
   simp only[Jq,l14] at h
   obtain⟨h1,h2,h3,h4,h5⟩:=h
   refine⟨⟨?_,?_,?_⟩,h5⟩
   ·rw[hx];simp[VG h1,VG h2]
   ·rw[hx];simp[hz,B0E h4]
   ·rw[hu];simp[A89 h3]
  ·cases h
 ·cases h
def FnR (P:Program) (f:Nat) (x:XFn):Prop:=(P.funcs[f]?).map (λfn=>(fn.body,fn.ntmps,fn.results.toList,fn.name== "runtime.NumGoroutine"))=some (some x.c,x.n,x.rs,false)
theorem FnR.ex {P:Program} {f:Nat} {x:XFn} (h:FnR P f x):∃fn,P.funcs[f]?=some fn∧fn.body=some x.c∧fn.ntmps=x.n∧fn.results.toList=x.rs∧(fn.name== "runtime.NumGoroutine")=false:=by
 unfold FnR at h
 cases hf:P.funcs[f]? with
 |none=>rw[hf] at h;simp at h
 |some fn=>
  rw[hf] at h
  simp only[l0x,l0y,Prod.mk.injEq] at h
  exact⟨fn,rfl,h.1,h.2.1,h.2.2.1,h.2.2.2⟩
def DrR (E:XE) (_:Nat) (x:XFn):Prop:=Qy (A1f E ⟨false,x.lv,x.fz,x.n,x.rc⟩) x.c=true
def eqR (P:Program) (t:Nat) (ks:List LK):Prop:=leaves P 6 t=some (true,ks)∧P.eqGuardType P.depth t=false
def glR (_:Nat) (cs:List AV):Prop:=cs.all isV=true
def C52 (P:Program) (l:Lie):Prop:=liesAt P P.depth l.1 (l.2.1/P.cellsOf l.1) l.2.2.1 l.2.2.2 1=true∧(P.info? l.2.2.2).isSome=true
theorem C3R {E:XE} {P:Program} (hty:E.ty.All (TiR P)) (hT:E.T=E.ty.get) (hmix:P.follows .mixedOrders=true) (hgl:E.gl.All glR) (hf:E.ft.All (FnR P)) (hd:E.ft.All (DrR E)) (he:E.eqt.All (eqR P)) (hl:∀l∈E.lie,C52 P l) (hu:P.underlying E.up=some .unsafePointer) (hn:∀f,E.ne f=true→XS P f):XE.Ok A1f E P where
 ty:= λt i h=>(hty.get (by rw[hT] at h;exact h)).1
 pos:= λt i e esz h hh h0=>by
  have:=(hty.get (by rw[hT] at h;exact h)).2
  subst h0
  rcases hh with hh|⟨n,hh⟩<;>(rw[hh] at this;simp[A8w] at this)
 mix:=hmix
 gl:= λg cs h=>hgl.get h
 fn:= λf x h=>by
  obtain⟨fn,h1,h2,h3,h4,h5⟩:=(hf.get h).ex
  exact⟨fn,h1,h2,h3,h4,h5,hd.get h⟩
 eq:= λt ks h=>⟨(he.get h).1,(he.get h).2⟩
 lie:= λe n o u h=>hl _ h
 up:= λ_=>hu
 ne:=hn
theorem A54 {P:Program} {f:Nat} {fn:Func} (hf:P.funcs[f]?=some fn) (hname:(fn.name== "runtime.NumGoroutine")=false) (hb:fn.body.isNone=true) (hn:Extern.findNext fn=none) (he:Extern.find fn=some Extern.AbiNoEscape.same):XS P f:=by
 intro x w
 have:Extern.AbiNoEscape.same #[x]=pure x:=rfl
 have hname':¬fn.name= "runtime.NumGoroutine" :=by simpa using hname
 have hb':fn.body=none:=by simpa using hb
 simp[callFunc,hf,hname',hb',hn,he,mark,this]
 rfl
end Go.Abs
end
noncomputable section
namespace Go.Proofs.YtlbhdmbfdcohhaaGreatDoor
open Go.RowKit
set_option maxRecDepth 100000
theorem YP:Tryz.pinned.checked.prog.funcNamed Rows.graphHeadsRow.func=some 7:=by kernel_rfl
theorem B8y:joinedFacts Tryz.prog 7 Tryz.f7 Rows.graphHeadsSpec Rows.graphHeadsRow=true:=by
 unfold joinedFacts
 simp only[Bool.and_eq_true]
 repeat' apply And.intro
 all_goals as_aux_lemma=>kernel_rfl
end Go.Proofs.YtlbhdmbfdcohhaaGreatDoor
end
