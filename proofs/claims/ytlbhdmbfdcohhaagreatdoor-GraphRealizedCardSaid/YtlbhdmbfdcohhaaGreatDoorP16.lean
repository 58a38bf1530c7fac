import Derived.KernelRfl
import Derived.Test.YtlbhdmbfdcohhaaGreatDoorP11
import Derived.Test.YtlbhdmbfdcohhaaGreatDoorP12
set_option linter.all false
set_option maxHeartbeats 100000000
noncomputable section
namespace Go.Proofs
open Go.Abs
set_option maxRecDepth 100000
def I5:It:= λL R a0 H K=>Dg Av a0 H λb a=>Ap Ag b a λc=>Ah R FF [c] a λd=>EP .not d λe=>K e a
def CO:JC:= λL R a0 a1 H K=>Ah R Dm [a0,a1] H λa=>Aj Ab .geq a (Aq 0) λb=>K b H
def KU:It:= λL R a0 H K=>Ah R E5 [] H λa=>Bg G6 [(0,1,a),(1,1,a0)] λb=>Dg Nz b H λc d=>K c d
def Gr:JC:= λL R a0 a1 H K=>Dg AF a1 H λe b=>Ai (Ik a0 Au) λx=>Ai (AH 0 x Au) λn=>Ai (Ap C9 n b Au) λf=>Ai (AH 0 e Au) λo=>Ai (Ap Ab o b Au) λg=>Ai (A5y .i64 g λy=>Zg Bb true f y b Au) λh=>Ai (A9 h 0 Au) λz=>Ai (A9 h 1 Au) λaa=>DC (AI BO Bb b λv H=>some (v,H)) λi c=>DC (Cb Bb i z c λH=>some (AV.v undef,H)) λa2 p=>QG (AU (Ap C9 n c Au) f) (QG (AU (Ap Ab o c Au) g) (QG (AU (A5y .i64 g λab=>Zg Bb true f ab c Au) h) (EP .not aa λa=>Bu a p (some (a0,p)) λac j=>Bu a j (Ap Bb i j (AJ j)) λad k=>Bu a k (Ap AE e k (AJ k)) λae l=>Bu a l (Ah R B2 [ac,ad,ae] l (AJ l)) λaf q=>Bu a q (EP .not af (AJ q)) λag d=>AC a DW ag λah=>Ar ah (K Cz d) (AH 2 i λai=>Ap Aa ai d λaj=>Ap AE e d λak=>Em (E L) R aj [a0,ak] d λr al=>A9 r 0 λam=>A9 r 1 λan=>AI Av Ag al λs ao=>Cb Ag s am ao λm=>Ai (Ik a0 Au) λap=>Ai (AH 2 ap Au) λt=>Ai (Ap Al t m Au) λu=>Ai (Ap Ag s m Au) λaq=>DC (Fp Av 20 Ag 1 [(0,20,aq)] m λv H=>some (v,H)) λar w=>DC (Ea Av 20 Ag Al u ar w λv H=>some (v,H)) λau av=>Ai (Ik a0 Au) λaw=>Ai (AH 2 aw Au) λax=>DC (Cb Al ax au av λH=>some (AV.v undef,H)) λa3 ay=>QG (AU (Ap Al t w Au) u) (Aj Ab .eql an (Aq 0) λaz=>K az ay)))))
def ES:JC:= λL R a0 a1 H K=>Dg AF a1 H λd k=>AI Av Ag k λb c=>AH 1 d λl=>Ap Ao l c λm=>Ah R BR [m] c λn=>EP .not n λa=>Bu a c (AH 3 d (AJ c)) λo e=>Bu a e (Ap Ag o e (AJ e)) λp f=>Bu a f (Ah R FF [p] f (AJ f)) λq h=>Bu a h (EP .not q (AJ h)) λr g=>AC a DW r λs=>Ar s (Bg Ag [] λt=>Cb Ag b t g λi=>Ap Ag b i λu=>K (AV.tup [u,(Aq 90)]) i) (AH 3 d λv=>Ap Ag v g λw=>Cb Ag b w g λj=>Ap Ag b j λx=>K (AV.tup [x,(Aq 0)]) j)
def Gq:JC:= λL R a0 a1 H K=>Dg AF a1 H λb f=>AI Av Ag f λc a=>Ai (Ik a0 Au) λg=>Ai (AH 2 g Au) λh=>Ai (Ap Al h a Au) λi=>Ai (AH 24 b Au) λj=>Ai (Ap Ab j a Au) λk=>Ai (B1 Al i k Au) λl=>Ai (Ap Ag l a Au) λm=>Ai (Ik a0 Au) λn=>Ai (AH 2 n Au) λo=>Ai (Ap Al o a Au) λp=>Ai (AH 25 b Au) λq=>Ai (Ap Ab q a Au) λr=>Ai (B1 Al p r Au) λs=>Ai (Ap Ag s a Au) λt=>Ai (Ah R OI [m,t] a Au) λd=>Ai (A9 d 0 Au) λu=>Ai (A9 d 1 Au) λw=>DC (Cb Ag c u a λH=>some (AV.v undef,H)) λy e=>Ap Ag c e λx=>K (AV.tup [x,w]) e
def Eu:JC:= λL R a0 a1 H K=>Dg AF a1 H λb f=>AI Av Ag f λc a=>Ai (Ik a0 Au) λg=>Ai (AH 2 g Au) λh=>Ai (Ap Al h a Au) λi=>Ai (AH 24 b Au) λj=>Ai (Ap Ab j a Au) λk=>Ai (B1 Al i k Au) λl=>Ai (Ap Ag l a Au) λm=>Ai (Ik a0 Au) λn=>Ai (AH 2 n Au) λo=>Ai (Ap Al o a Au) λp=>Ai (AH 25 b Au) λq=>Ai (Ap Ab q a Au) λr=>Ai (B1 Al p r Au) λs=>Ai (Ap Ag s a Au) λt=>Ai (Ah R GE [m,t] a Au) λd=>Ai (A9 d 0 Au) λu=>Ai (A9 d 1 Au) λw=>DC (Cb Ag c u a λH=>some (AV.v undef,H)) λy e=>Ap Ag c e λx=>K (AV.tup [x,w]) e
def Fj:JC:= λL R a0 a1 H K=>Dg AF a1 H λb f=>AI Av Ag f λc a=>Ai (Ik a0 Au) λg=>Ai (AH 2 g Au) λh=>Ai (Ap Al h a Au) λi=>Ai (AH 24 b Au) λj=>Ai (Ap Ab j a Au) λk=>Ai (B1 Al i k Au) λl=>Ai (Ap Ag l a Au) λm=>Ai (Ik a0 Au) λn=>Ai (AH 2 n Au) λo=>Ai (Ap Al o a Au) λp=>Ai (AH 25 b Au) λq=>Ai (Ap Ab q a Au) λr=>Ai (B1 Al p r Au) λs=>Ai (Ap Ag s a Au) λt=>Ai (Ah R OK [m,t] a Au) λd=>Ai (A9 d 0 Au) λu=>Ai (A9 d 1 Au) λw=>DC (Cb Ag c u a λH=>some (AV.v undef,H)) λy e=>Ap Ag c e λx=>K (AV.tup [x,w]) e
def ER:JC:= λL R a0 a1 H K=>Dg AF a1 H λb f=>AI Av Ag f λc a=>Ai (Ik a0 Au) λg=>Ai (AH 2 g Au) λh=>Ai (Ap Al h a Au) λi=>Ai (AH 24 b Au) λj=>Ai (Ap Ab j a Au) λk=>Ai (B1 Al i k Au) λl=>Ai (Ap Ag l a Au) λm=>Ai (Ik a0 Au) λn=>Ai (AH 2 n Au) λo=>Ai (Ap Al o a Au) λp=>Ai (AH 25 b Au) λq=>Ai (Ap Ab q a Au) λr=>Ai (B1 Al p r Au) λs=>Ai (Ap Ag s a Au) λt=>Ai (Ah R OL [m,t] a Au) λd=>Ai (A9 d 0 Au) λu=>Ai (A9 d 1 Au) λw=>DC (Cb Ag c u a λH=>some (AV.v undef,H)) λy e=>Ap Ag c e λx=>K (AV.tup [x,w]) e
def FC:JC:= λL R a0 a1 H K=>Dg AF a1 H λb o=>AI Av Ag o λc f=>AH 23 b λp=>Ap Ab p f λq=>Aj Ab .eql q (Aq 0) λd=>Bu d f (AH 23 b (AJ f)) λr g=>Bu d g (Ap Ab r g (AJ g)) λs i=>Bu d i (Aj Ab .lss s (Aq (-4)) (AJ i)) λt j=>AC d DW t λe=>Bu e j (AH 23 b (AJ j)) λu h=>Bu e h (Ap Ab u h (AJ h)) λw k=>Bu e k (Aj Ab .gtr w (Aq 4) (AJ k)) λx a=>AC e DW x λy=>Ar y (Bg Ag [] λz=>Cb Ag c z a λl=>Ap Ag c l λaa=>K (AV.tup [aa,(Aq 90)]) l) (Ai (Ik a0 Au) λab=>Ai (AH 2 ab Au) λac=>Ai (Ap Al ac a Au) λad=>Ai (AH 24 b Au) λae=>Ai (Ap Ab ae a Au) λaf=>Ai (B1 Al ad af Au) λag=>Ai (Ap Ag ag a Au) λah=>Ai (AH 23 b Au) λai=>Ai (Ap Ab ai a Au) λaj=>Ai (Bg Dz [(0,1,aj),(1,1,(Aq 1))] Au) λak=>Ai (Ah R OJ [ah,ak] a Au) λm=>Ai (A9 m 0 Au) λal=>Ai (A9 m 1 Au) λam=>DC (Cb Ag c al a λH=>some (AV.v undef,H)) λao n=>Ap Ag c n λan=>K (AV.tup [an,am]) n)
def VI:It:= λL R a0 H K=>Ah R MX [a0,(AV.v (.string ⟨⟨[45]⟩⟩))] H λa=>Aj Ad .eql a (AV.v (.string ⟨⟨[]⟩⟩)) λb=>Bu b H (some (a,H)) λm g=>Bu b g (AM Ad m (AJ g)) λn h=>Bu b h (Aj Ab .gtr n (Aq 200) (AJ h)) λo i=>AC b DW o λc=>Bu c i (some (a,i)) λp e=>Bu c e (Ah R A0Z [p,(AV.v (.string ⟨⟨[48,49,50,51,52,53,54,55,56,57]⟩⟩))] e (AJ e)) λq j=>Bu c j (Aj Ad .neq q (AV.v (.string ⟨⟨[]⟩⟩)) (AJ j)) λr f=>AC c DW r λs=>Ar s (K Cz f) (Aj Ad .eql a0 (AV.v (.string ⟨⟨[48]⟩⟩)) λd=>Bu d f (some (a,f)) λt k=>Bu d k (Sh Ad Ad t (Aq 0) (AJ k)) λu l=>Bu d l (Aj AD .neq u (AV.v (.int .u8 48)) (AJ l)) λw x=>AC d DW w λy=>K y x)
def A0v:JC:= λL R a0 a1 H K=>AI CA A2 H λa j=>AI CA A2 j λb e=>Ah R Lu [a0] e λk=>EP .not k λc=>Bu c e (some (a1,e)) λl f=>Bu c f (Ah R Lu [l] f (AJ f)) λm i=>Bu c i (EP .not m (AJ i)) λn d=>AC c DW n λo=>Ar o (Bg A2 [] λp=>Bg A2 [] λq=>Cb A2 a p d λr=>Cb A2 b q r λg=>Ap A2 a g λs=>Ap A2 b g λt=>K (AV.tup [s,t,Cz]) g) (Ah R Sw [a0] d λu=>Ah R Sw [a1] d λv=>Cb A2 a u d λw=>Cb A2 b v w λh=>Ap A2 a h λx=>Ap A2 b h λy=>K (AV.tup [x,y,DW]) h)
def FA:Operand×Array Tmp×Code×Code:=V5 (C4e) 0
def PY:JC:= λL R a0 a1 H K=>Dg Eb a1 H λd j=>AI CK Ab j λa b=>AM Af a0 λk=>Ap Af d b λl=>AM Af l λm=>Aj Ab .neq k m λn=>Ar n (AM Af a0 λo=>Ap Af d b λp=>AM Af p λq=>Ah R Wm [o,q] b λr=>Cb Ab a r b λe=>Ap Ab a e λs=>K s e) (jn (λf t=>Cb Ab f (Aq 0) t λg=>Ap Ab f g λu=>K u g) λv=>Ah R DA [a0] b λh=>jn (λw x=>v w x) λi=>WN R 33 h [(3,d),(4,a),(5,AV.dk),(6,AV.dk),(18,h),(19,AV.dk),(20,AV.dk),(21,AV.dk),(22,AV.dk),(23,AV.dk),(24,AV.dk),(25,AV.dk),(26,AV.dk),(27,AV.dk),(28,AV.dk),(29,AV.dk),(30,AV.dk),(31,AV.dk),(32,AV.dk)] (FA).2.1 (FA).2.2.1 (FA).2.2.2 b λy c=>VB y (i a c) (Ap Ab a c λz=>K z c) (λaa=>@Bool.rec (λ_=>Am) (none) (i a c) (Nat.beq aa 0)) (λ_=>none))
def GQ:Operand×Array Tmp×Code×Code:=V5 (C4d) 0
def SG:JC:= λL R a0 a1 H K=>Dg Eb a1 H λo p=>AI Eb Af p λa q=>AI Eb Af q λd r=>AM Af a0 λi=>eMk CK 1 Ab i i r λs t=>Cb Af a s t λj=>jn (λe b f=>Ai (Ap Af e f Au) λu=>DC (R.call Fb [u] f λv H=>some (v,H)) λw k=>Ai (Ap Af b k Au) λg=>DC (Cb Af e w k λH=>some (AV.v undef,H)) λah l=>DC (Cb Af b g l λH=>some (AV.v undef,H)) λai h=>QG (AU (Ap Af b f Au) g) (QG (AU (Ap Af b l Au) g) (Ap Af e h λx=>Ap Af b h λy=>K (AV.tup [x,y]) h))) λz=>Ah R DA [a0] j λm=>jn (λaa ab ac=>z aa ab ac) λn=>WN R 41 m [(3,o),(4,a),(5,d),(6,AV.dk),(7,AV.dk),(8,AV.dk),(9,AV.dk),(14,m),(15,AV.dk),(16,AV.dk),(17,AV.dk),(18,AV.dk),(19,AV.dk),(20,AV.dk),(21,AV.dk),(22,AV.dk),(23,AV.dk),(24,AV.dk),(25,AV.dk),(26,AV.dk),(27,AV.dk),(28,AV.dk),(29,AV.dk),(30,AV.dk),(31,AV.dk),(32,AV.dk),(33,AV.dk),(34,AV.dk),(35,AV.dk),(36,AV.dk),(37,AV.dk)] (GQ).2.1 (GQ).2.2.1 (GQ).2.2.2 j λad c=>VB ad (n a d c) (Ap Af a c λae=>Ap Af d c λaf=>K (AV.tup [ae,af]) c) (λag=>@Bool.rec (λ_=>Am) (none) (n a d c) (Nat.beq ag 0)) (λ_=>none)
def GP:Operand×Array Tmp×Code×Code:=V5 (C4c) 0
def SF:It:= λL R a0 H K=>Dg CA a0 H λa c=>AH 1 a λj=>Ap Af j c λk=>AM Af k λl=>Aj Ab .eql l (Aq 0) λm=>Ar m (K (AV.tup [(AV.v (.string ⟨⟨[48]⟩⟩)),(Aq 0)]) c) (AI CH Bk c λd e=>jn (λn o p=>R.call CD [o] p λf b=>AM Ad f λq=>Aj Ab .gtr q (Aq 200) λr=>Ar r (K (AV.tup [(AV.v (.string ⟨⟨[]⟩⟩)),(Aq 30)]) b) (AH 0 n λs=>Ap EX s b λt=>Ar t (Aj Ad .add (AV.v (.string ⟨⟨[45]⟩⟩)) f λu=>K (AV.tup [u,(Aq 0)]) b) (K (AV.tup [f,(Aq 0)]) b))) λw=>AH 1 a λx=>Ap Af x e λy=>Ah R DA [y] e λh=>jn (λz aa ab=>w z aa ab) λi=>WN R 43 h [(1,a),(2,(AV.v (.string ⟨⟨[]⟩⟩))),(3,(Aq 0)),(4,d),(5,AV.dk),(6,AV.dk),(7,AV.dk),(15,h),(16,AV.dk),(17,AV.dk),(18,AV.dk),(19,AV.dk),(20,AV.dk),(21,AV.dk),(22,AV.dk),(23,AV.dk),(24,AV.dk),(25,AV.dk),(26,AV.dk),(27,AV.dk),(28,AV.dk),(29,AV.dk),(30,AV.dk),(31,AV.dk),(32,AV.dk)] (GP).2.1 (GP).2.2.1 (GP).2.2.2 e λac g=>VB ac (i a d g) (K (AV.tup [(AV.v (.string ⟨⟨[]⟩⟩)),(Aq 0)]) g) (λad=>@Bool.rec (λ_=>Am) (none) (i a d g) (Nat.beq ad 0)) (λ_=>none))
def RJ:JC:= λL R a0 a1 H K=>Dg Eb a0 H λa c=>Dg Eb a1 c λd b=>Ap Af a b λe=>AM Af e λf=>R.call HF [f,(Aq 0),(AV.fn (.func OO) [] [a,d])] b λg h=>R.call Fb [g] h λi j=>K i j
def A1Y:JC:= λL R a0 a1 H K=>AI AA Ao H λb a=>Ah R Pv [a0] a λe=>Ah R Pv [a1] a λf=>Ah R YM [e,f] a λc=>A9 c 0 λg=>A9 c 1 λh=>Cb Ao b g a λd=>Ap Ao b d λi=>K (AV.tup [i,h]) d
def Ds (L:Nat) (R:Rt) (K:KV) (g:Hp→Am) (ih:JZ):JZ:= λc d e a b=>Aj Ab .lss a e λh=>Ar h (B1 Ae d a λi=>Ap Ad i b λj=>Em (E L) R c [j] b λk f=>EP .not k λl=>Ar l (K (AV.tup []) f) (Aj Ab .add a (Aq 1) λm=>ih c d e m f)) (g b)
def Cw (L:Nat) (R:Rt) (K:KV) (a:Hp→Am) (n:Nat):JZ:=GB z4N (Ds L R K a) n
theorem Iz (L:Nat) (R:Rt) (K:KV) (a:Hp→Am) (n:Nat):Cw L R K a (n+1)=Ds L R K a (Cw L R K a n):=rfl
def D5:JC:= λL R a0 a1 H K=>Ap Ae a1 H λa=>AM Ae a λb=>jn (λc=>K (AV.tup []) c) λd=>Cw L R K d L a0 a b (Aq 0) H
def Dc (L:Nat) (R:Rt) (K:KV) (g:Hp→Am) (ih:JZ):JZ:= λc d e a b=>Aj Ab .lss a e λh=>Ar h (B1 Al c a λi=>Ap Ag i b λj=>Em (E L) R d [j] b λk f=>Ar k (K a f) (Aj Ab .add a (Aq 1) λl=>ih c d e l f)) (g b)
def Cq (L:Nat) (R:Rt) (K:KV) (a:Hp→Am) (n:Nat):JZ:=GB z4N (Dc L R K a) n
theorem HL (L:Nat) (R:Rt) (K:KV) (a:Hp→Am) (n:Nat):Cq L R K a (n+1)=Dc L R K a (Cq L R K a n):=rfl
def Dk:JC:= λL R a0 a1 H K=>jn (λa=>K (Aq (-1)) a) λb=>AM Al a0 λc=>jn (λd=>b d) λe=>Cq L R K e L a0 a1 c (Aq 0) H
def Xy (L:Nat) (R:Rt) (K:KV) (g:J1) (ih:Jl):Jl:= λd a b c=>AM Ad a λh=>Aj Ab .gtr h (Aq 0) λi=>Ar i (AM Ad a λj=>Aj Ab .sub j (Aq 4) λk=>eMM false (Aq 0) k λe=>Ei Ad a (some e) none none λl=>Ah R A11 [l] c λf=>A9 f 0 λm=>A9 f 1 λw=>AH 1 b λn=>Ap Af n c λo=>Fp CK 1 Ab 1 [(0,1,m)] c λp q=>Ea CK 1 Ab Af o p q λr s=>AH 1 b λt=>Cb Af t r s λu=>Ei Ad a none (some e) none λv=>ih d v b u) (g d b c)
def Xx (L:Nat) (R:Rt) (K:KV) (a:J1) (n:Nat):Jl:=GB z3N (Xy L R K a) n
def YF:It:= λL R a0 H K=>AI CA A2 H λi b=>Ah R MX [a0,(AV.v (.string ⟨⟨[45]⟩⟩))] b λc=>AM Ad c λj=>AM Ad a0 λk=>Aj Ab .lss j k λl=>Bg A2 [(0,1,l)] λm=>AI CA A2 b λd n=>Cb A2 d m n λo=>jn (λe a f=>AH 1 a λp=>Ap Af p f λq=>R.call Fb [q] f λr s=>AH 1 a λt=>Cb Af t r s λg=>Ap A2 a g λu=>Cb A2 e u g λh=>Ap A2 e h λw=>K w h) λx=>jn (λy z aa=>x y z aa) λab=>Xx L R K ab L i c d o
def J3:It:= λL R a0 H K=>Dg Eb a0 H λa b=>K (AV.fn (.func Ip) [] [a]) b
def Pg (L:Nat) (R:Rt) (K:KV) (k:IL) (ih:IL):IL:= λb d=>AM Af b λl=>Aj Ab .gtr l (Aq 0) λa=>AR a d (some (b,d)) λm e=>AR a e (some (b,e)) λn f=>AR a f (AM Af n (AJ f)) λo g=>AR a g (Aj Ab .sub o (Aq 1) (AJ g)) λp h=>AR a h (B1 Af m p (AJ h)) λq c=>AR a c (Ap Ab q c (AJ c)) λr i=>AR a i (Aj Ab .eql r (Aq 0) (AJ i)) λs j=>AC a s Cz λt=>Ar t (AM Af b λu=>Aj Ab .sub u (Aq 1) λv=>Ei Af b none (some v) none λw=>ih w j) (k b j)
def Pf (L:Nat) (R:Rt) (K:KV) (a:IL) (n:Nat):IL:=GB z1N (Pg L R K a) n
def PX:It:= λL R a0 H K=>jn (λa b=>K a b) λc=>jn (λd e=>c d e) λf=>Pf L R K f L a0 H
def Ug:JC:= λL R a0 a1 H K=>Dg Eb a0 H λa c=>Dg CK a1 c λd b=>Ap Af a b λe=>AM Af e λf=>R.call HF [f,(Aq 0),(AV.fn (.func QS) [] [a,d])] b λg h=>R.call Fb [g] h λi j=>K i j
def Pd:Y3N:= λL R a0 a1 a2 H K=>Ai (Ap Aa a1 H Au) λc=>Ai (Aj Ab .add a0 (Aq 1) Au) λd=>DC (Em (E L) R c [d] H λv H=>some (v,H)) λe a=>Ai (Ap Af a2 a Au) λb=>Ai (Ah R GZ [e,b] a Au) λf=>Ai (Aj Ab .gtr f (Aq 0) Au) λg=>QG (AU (Ap Af a2 H Au) b) (K g a)
def Mh (L:Nat) (R:Rt) (K:KV) (m:IL) (ih:NX):NX:= λf g h i b j=>Aj Ab .lss b f λc=>Bu c j (some (g,j)) λn k=>Bu c k (Aj Ab .neq n (Aq 0) (AJ k)) λo l=>AC c DW o λp=>Ar p (Em (E L) R h [b] l λq d=>Aj Ab .add q g λa=>jn (λr s t=>Fp CK 1 Ab 1 [(0,1,s)] t λu v=>Ea CK 1 Ab Af i u v λw x=>Aj Ab .add b (Aq 1) λy=>ih f r h w y x) λe=>Aj Ab .lss a (Aq 0) λz=>Ar z (Aj Ab .add a (Aq 10000) λaa=>e (Aq (-1)) aa d) (Aj Ab .geq a (Aq 10000) λab=>Ar ab (Aj Ab .quo a (Aq 10000) λac=>Aj Ab .rem a (Aq 10000) λad=>e ac ad d) (e (Aq 0) a d))) (m i l)
def Mg (L:Nat) (R:Rt) (K:KV) (a:IL) (n:Nat):NX:=GB z5N (Mh L R K a) n
def MR:Y3N:= λL R a0 a1 a2 H K=>Aj Ab .add a0 (Aq 1) λa=>eMk CK 1 Ab (Aq 0) a H λb c=>jn (λd e=>K d e) λf=>jn (λg h=>f g h) λi=>Mg L R K i L a0 a1 a2 b (Aq 0) c
def Uh:JC:= λL R a0 a1 H K=>AM Af a0 λa=>Aj Ab .lss a1 a λb=>Ar b (B1 Af a0 a1 λc=>Ap Ab c H λd=>K d H) (K (Aq 0) H)
def O6:Y3N:= λL R a0 a1 a2 H K=>Ai (Ap Af a1 H Au) λa=>Ai (Ah R J7 [a,a0] H Au) λb=>Ai (Ap Af a2 H Au) λc=>Ai (Ah R J7 [c,a0] H Au) λd=>Ai (Aj Ab .sub b d Au) λe=>K e H
def YD:JC:= λL R a0 a1 H K=>AI AA Ao H λd b=>Ah R JW [a0] b λh=>EP .not h λa=>Bu a b (some (a1,b)) λi c=>Bu a c (Ah R JW [i] c (AJ c)) λj e=>Bu a e (EP .not j (AJ e)) λk l=>AC a DW k λm=>Bg Hi [(0,1,m)] λn=>Dg Yf n l λo p=>R.call Ph [o,a0,a1] p λf q=>A9 f 0 λr=>A9 f 1 λs=>Cb Ao d r q λg=>Ap Ao d g λt=>K (AV.tup [t,s]) g
def VJ:It:= λL R a0 H K=>Ah R Bs [a0] H λa=>K a H
def HO (L:Nat) (R:Rt) (K:KV) (f:Hp→Am) (ih:Jl):Jl:= λc d a b=>Aj Ab .geq a (Aq 0) λg=>Ar g (Ap Af d b λh=>B1 Af h a λi=>Ap Ab i b λj=>Em (E L) R c [a,j] b λk e=>EP .not k λl=>Ar l (K (AV.tup []) e) (Aj Ab .sub a (Aq 1) λm=>ih c d m e)) (f b)
def HN (L:Nat) (R:Rt) (K:KV) (a:Hp→Am) (n:Nat):Jl:=GB z3N (HO L R K a) n
def Io:JC:= λL R a0 a1 H K=>Ap Af a1 H λa=>AM Af a λb=>Aj Ab .sub b (Aq 1) λc=>jn (λd=>K (AV.tup []) d) λe=>HN L R K e L a0 a1 c H
def QK:Y3N:= λL R a0 a1 a2 H K=>Ai (Ap Af a1 H Au) λa=>Ai (Ah R J7 [a,a0] H Au) λb=>Ai (Ap Ab a2 H Au) λc=>Ai (Aj Ab .mul b c Au) λd=>K d H
def Pc:Y3N:= λL R a0 a1 a2 H K=>AI AA Ao H λa d=>Ik a0 λo=>AH 0 o λp=>Ap EX p d λe=>Bu e d (some (a2,d)) λq f=>Bu e f (Aj Ad .eql q (AV.v (.string ⟨⟨[48]⟩⟩)) (AJ f)) λr b=>AC e DW r λs=>Ar s (Bg Ao [] λt=>Cb Ao a t b λg=>Ap Ao a g λu=>K (AV.tup [u,(Aq 40)]) g) (jn (λh i w=>R.call GK [a0,(AV.fn (.func Uw) [] []),h,i] w λj x=>R.call Jd [a0,h,j] x λy z=>R.call Jd [a0,i,j] z λaa ab=>Bg Ao [(0,1,y),(1,1,aa)] λac=>AI AA Ao ab λk ad=>Cb Ao k ac ad λc=>Ik a0 λae=>AH 0 ae λaf=>Ap EX af c λag=>Ar ag (Bg Ao [] λah=>Cb Ao a ah c λl=>Ap Ao a l λai=>K (AV.tup [ai,(Aq 40)]) l) (Ap Ao k c λaj=>Cb Ao a aj c λm=>Ap Ao a m λak=>K (AV.tup [ak,(Aq 0)]) m)) λn=>Ah R Pw [a2,(AV.v (.string ⟨⟨[48]⟩⟩))] b λal=>Aj Ab .lss al (Aq 0) λam=>Ar am (R.call GK [a0,(AV.fn (.func Uv) [] []),(AV.v (.string ⟨⟨[48]⟩⟩)),a1] b λan ao=>R.call GK [a0,(AV.fn (.func Uv) [] []),(AV.v (.string ⟨⟨[48]⟩⟩)),a2] ao λap aq=>n an ap aq) (n a1 a2 b))
def Tr:Y4N:= λL R a0 a1 a2 a3 H K=>Ik a0 λb=>AH 0 b λc=>Ap EX c H λd=>Ar d (K (AV.v (.string ⟨⟨[]⟩⟩)) H) (Em (E L) R a1 [a2,a3] H λa e=>A9 a 0 λf=>A9 a 1 λg=>Aj Ab .neq g (Aq 0) λh=>Ik a0 λi=>AH 0 i λj=>Cb EX j h e λk=>K f k)
def O4:Y3N:= λL R a0 a1 a2 H K=>R.call GK [a0,(AV.fn (.func Mq) [] []),a1,a2] H λa b=>K a b
def LU:JC:= λL R a0 a1 H K=>Ah R A2a [a0,a1] H λa=>A9 a 0 λb=>A9 a 1 λd=>A9 a 2 λc=>K (AV.tup [b,c]) H
end Go.Proofs
end
noncomputable section
namespace Go.Abs
open Go.RowKit
theorem A71 {α:Type}:∀(l:List α) (k:Nat) (a:α),k<l.length→splice l k [a]=l.set k a:=by
 intro l
 induction l with
 |nil=>intro k a h;simp at h
 |cons b l ih=>
  intro k a h
  cases k with
  |zero=>simp[splice]
  |succ k=>
   have:=ih k a (by simpa using h)
   simp only[splice,List.length_singleton] at this⊢
   simp[this]
theorem UF {α:Type} (l vs:List α) (h:vs.length=l.length):splice l 0 vs=vs:=by simp[splice,h]
theorem Ba {ty:Nat} {i:TI} {H:Hp} {cs:List AV} {K:KV} (hz:i.zero= .agg cs):AI ty i H K=K (.ptr (A7 H) 0 0) ((A7 H,.cells true ty cs)::H):=by
 unfold AI
 rw[hz,Dq,Cg];rfl
theorem B3U {ty:Nat} {v:Value} {H:Hp} {K:KV} (h1:AV.one (.v v)=true):Dg ty (.v v) H K=K (.ptr (A7 H) 0 0) ((A7 H,.cells true ty [.v v])::H):=by
 unfold Dg
 rw[Dq,G9,Cg]
 have:(B7 (.v v)).all AV.one=true:=by simp[B7,h1]
 rw[this];rfl
theorem C1q {ty n:Nat} {cs:List AV} {H:Hp} {K:KV}:Dg ty (.list n cs) H K=K (.ptr (A7 H) 0 0) ((A7 H,.cells true ty [.list n cs])::H):=by
 unfold Dg
 rw[Dq,G9,Cg];rfl
theorem EG {ty:Nat} {cs:List AV} {H:Hp} {K:KV} (h1:cs.all AV.one=true):Dg ty (.agg cs) H K=K (.ptr (A7 H) 0 0) ((A7 H,.cells true ty cs)::H):=by
 unfold Dg
 rw[Dq,G9,Cg]
 have:(B7 (.agg cs)).all AV.one=true:=h1
 rw[this];rfl
theorem A8 {H:Hp} {r:Nat} {x:Row} {q:Bool} {e:Nat} {cs:List AV} (h:Aw H r=some x):Aw (upd H r (.cells q e cs)) r=some (.cells q e cs):=by
 rw[FJ h];rfl
theorem E9 {i:TI} {s p e:Nat} {q:Bool} {cs:List AV} {v:AV} {H:Hp} {K:Hp→Am} (hl:Aw H s=some (.cells q e cs)) (hp:p<cs.length) (hz:i.size=1) (hv:B7 v=[v]) (h1:AV.one v=true):Cb i (.ptr s p 0) v H K=K (upd H s (.cells q e (cs.set p v))):=by
 have e1:Cb i (.ptr s p 0) v H K=Lf H s λx=>A1E x λq e cs=>Gv v λvs=>Hw vs 0 λn=>ck (Nat.beq n i.size) (ck (PK vs) (EH (Nat.add p 0) vs cs λcs'=>Qf H s (.cells q e cs') K)):=rfl
 rw[e1,C6 hl]
 show Gv v _=_
 rw[Dq,hv,C4,hz,G9]
 have:[v].all AV.one=true:=by simp[h1]
 rw[this]
 show EH p [v] cs _=_
 rw[Mk _ _ _ _ (by simp;omega),A71 _ _ _ hp,Ez]
theorem B0 {i:TI} {s e:Nat} {q:Bool} {cs vs:List AV} {H:Hp} {K:Hp→Am} (hl:Aw H s=some (.cells q e cs)) (hp:vs.length=cs.length) (hz:i.size=cs.length) (h1:vs.all AV.one=true):Cb i (.ptr s 0 0) (.agg vs) H K=K (upd H s (.cells q e vs)):=by
 have e1:Cb i (.ptr s 0 0) (.agg vs) H K=Lf H s λx=>A1E x λq e cs=>Gv (.agg vs) λvs=>Hw vs 0 λn=>ck (Nat.beq n i.size) (ck (PK vs) (EH 0 vs cs λcs'=>Qf H s (.cells q e cs') K)):=rfl
 rw[e1,C6 hl]
 show(Gv (.agg vs) λvs=>Hw vs 0 λn=>ck (Nat.beq n i.size) (ck (PK vs) (EH 0 vs cs λcs'=>Qf H s (.cells q e cs') K)))=_
 have hc:B7 (.agg vs)=vs:=rfl
 rw[Dq,hc,C4,hz,G9,h1,hp,Le,l29]
 show EH 0 vs cs _=_
 rw[Mk _ _ _ _ (by omega),UF _ _ hp,Ez]
theorem Bf {t:TI} {H:Hp} {r e:Nat} {q:Bool} {cs:List AV} {K:AV→Am} (h:t.d.isAgg=true) (hz:t.size=cs.length) (hl:Aw H r=some (.cells q e cs)):Ap t (.ptr r 0 0) H K=K (.agg cs):=by
 have:Ap t (.ptr r 0 0) H K=Lf H r λx=>L2 x λ_ cs=>@Bool.rec (λ_=>Am) (hdK (Da 0 cs) K) (F2 t.size (Da 0 cs) λc=>K (.agg c)) t.d.isAgg:=rfl
 rw[this,h,C6 hl]
 show F2 t.size (Da 0 cs) _=_
 rw[Ct,l1n,hz,Mj _ _ _ (by omega),l06]
theorem AW {t:TI} {H:Hp} {r p e:Nat} {q:Bool} {cs:List AV} {K:AV→Am} (h:t.d.isAgg=false) (hl:Aw H r=some (.cells q e cs)) (hp:p<cs.length):Ap t (.ptr r p 0) H K=K (cs.getD p .dk):=by
 have:Ap t (.ptr r p 0) H K=Lf H r λx=>L2 x λ_ cs=>@Bool.rec (λ_=>Am) (hdK (Da (Nat.add p 0) cs) K) (F2 t.size (Da (Nat.add p 0) cs) λc=>K (.agg c)) t.d.isAgg:=rfl
 rw[this,h,C6 hl]
 show hdK (Da p cs) K=_
 rw[Ct,l11 hp,Tw,Jw hp];rfl
theorem Dx {t:TI} {m e s:Nat} {z:Int} (k:Nat) {K:AV→Am} (hd:t.d= .array m e 1) (hz:z=k) (hk:k<m):B1 t (.ptr s 0 0) (.v (.int .i64 z)) K=K (.ptr s k 0):=by
 subst hz
 have e1:B1 t (.ptr s 0 0) (.v (.int .i64 (k:Int))) K=iN (k:Int) λn=>ck (Nat.blt n m) (fN (Nat.add 0 (Nat.mul n 1)) λq=>K (.ptr s q 0)):=by
  obtain⟨a,b,d,z⟩:=t;simp only at hd;subst hd;rfl
 rw[e1,JM,DX]
 have h2:Nat.add 0 (Nat.mul k 1)=k:=by show 0+k*1=k;omega
 have h3:Nat.blt k m=true:=by rw[TS];exact hk
 rw[h2,h3];rfl
theorem A9k {t j:TI} {m e:Nat} {cs:List AV} {z:Int} (k:Nat) {K:AV→Am} (hd:t.d= .array m e 1) (hj:j.d.isAgg=false) (hz:z=k) (hk:k<m) (hc:m≤cs.length):Sh t j (.agg cs) (.v (.int .i64 z)) K=K (cs.getD k .dk):=by
 subst hz
 have e1:Sh t j (.agg cs) (.v (.int .i64 (k:Int))) K=iN (k:Int) λn=>ck (Nat.blt n m) (XW j (Da (Nat.mul n 1) cs) K):=by
  obtain⟨a,b,d,z⟩:=t;simp only at hd;subst hd;rfl
 rw[e1,JM]
 have h2:Nat.mul k 1=k:=l28 k
 have h3:Nat.blt k m=true:=by rw[TS];exact hk
 have h4:k<cs.length:=by omega
 rw[h2,h3,Ct,l11 h4,Tw,Jw h4]
 show XW j (cs[k]::cs.drop (k+1)) K=_
 unfold XW
 rw[hj];rfl
theorem GA {r p k:Nat} {K:AV→Am}:Ik (.ptr r p k) K=K (.ptr r p k):=id rfl
theorem A2c {R:Rt} {r N:Nat} {args:List AV} {t:Tm} {ps:Array Tmp} {aZ bd:Code} {H:Hp} {K:KV} (hl:Aw H r=some (.loop N t ps aZ bd (some none))) (hp:A2D N ps.toList=true):
 SM R r args H K=rdK R.run N t ps args aZ bd H (λH2 K2=>Gf H2 r true none K2) (λe H4=>match e with
  | .normal=>Gf H4 r false (some none) λH5=>K (.v (.bool true)) H5
  | .ret=>Gf H4 r false (some (some .ret)) λH5=>K (.v (.bool false)) H5
  | .exit id=>Gf H4 r false (some (some (.exit id))) λH5=>K (.v (.bool false)) H5
  | .goto l=>Gf H4 r false (some (some (.goto l))) λH5=>K (.v (.bool false)) H5
  |_=>none):=by
 unfold SM
 rw[C6 hl]
 show ck (A2D N ps.toList) _=_
 rw[hp];rfl
theorem A2w {H:Hp} {r N:Nat} {t:Tm} {ps:Array Tmp} {aZ bd:Code} {to:Option (Option Code)} {K:Hp→Am} (hl:Aw H r=some (.loop N t ps aZ bd (some none))):Gf H r true to K=K (upd H r (.loop N t ps aZ bd to)):=by
 unfold Gf
 rw[C6 hl]
 show Qf H r _ K=_
 rw[Ez]
theorem A2v {H:Hp} {r N:Nat} {t:Tm} {ps:Array Tmp} {aZ bd:Code} {to:Option (Option Code)} {K:Hp→Am} (hl:Aw H r=some (.loop N t ps aZ bd none)):Gf H r false to K=K (upd H r (.loop N t ps aZ bd to)):=by
 unfold Gf
 rw[C6 hl]
 show Qf H r _ K=_
 rw[Ez]
theorem RU {H:Hp} {r N:Nat} {x:Row} {t:Tm} {ps:Array Tmp} {aZ bd:Code} {to:Option (Option Code)} (h:Aw H r=some x):Aw (upd H r (.loop N t ps aZ bd to)) r=some (.loop N t ps aZ bd to):=by
 rw[FJ h];rfl
def BT.allB {α:Type} (c:Nat→α→Bool):BT α→Bool
 | .leaf=>true
 | .node k v l r=>c k v&&(l.allB c&&r.allB c)
theorem B4i {α:Type} {c:Nat→α→Bool} {p:Nat→α→Prop} (h:∀k v,c k v=true→p k v):∀{b:BT α},b.allB c=true→b.All p:=by
 intro b
 induction b with
 |leaf=>intro _;trivial
 |node k v l r ihl ihr=>
  intro hb
  simp only[BT.allB,Iv] at hb
  exact⟨h k v hb.1,ihl hb.2.1,ihr hb.2.2⟩
def A7l:TD→Bool
 | .slice _ 0=>true
 | .array _ _ 0=>true
 |_=>false
def A8u:AV→AV→Bool
 | .v (.int k n),.v (.int k' n')=>decide (k=k')&&decide (n=n')
 | .v (.bool b),.v (.bool b')=>b==b'
 | .v (.string s),.v (.string s')=>s.data.toList.isEmpty&&s'.data.toList.isEmpty
 | .v (.slice none 0 0),.v (.slice none 0 0)=>true
 | .v (.pointer none),.v (.pointer none)=>true
 | .v (.map none),.v (.map none)=>true
 | .v .nilFunc,.v .nilFunc=>true
 | .v .nilIface,.v .nilIface=>true
 |_,_=>false
def WH:List AV→List AV→Bool
 |[],[]=>true
 |a::as',b::bs=>A8u a b&&WH as' bs
 |_,_=>false
def zeq:AV→AV→Bool
 | .agg cs,.agg ds=>WH cs ds
 |a,b=>A8u a b
theorem XI {a b:AV} (h:A8u a b=true):a=b:=by
 unfold A8u at h
 split at h<;>simp at h<;>try rfl
 ·rw[h.1,h.2]
 ·rw[h]
 ·rename_i s s'
  obtain⟨⟨l⟩⟩:=s
  obtain⟨⟨l'⟩⟩:=s'
  simp at h
  rw[h.1,h.2]
theorem A38:∀{as' bs:List AV},WH as' bs=true→as'=bs:=by
 intro as'
 induction as' with
 |nil=>intro bs h;cases bs<;>simp[WH] at h⊢
 |cons a as' ih=>
  intro bs h
  cases bs with
  |nil=>simp[WH] at h
  |cons b bs=>
   simp only[WH,Iv] at h
   rw[XI h.1,ih h.2]
theorem A9B {a b:AV} (h:zeq a b=true):a=b:=by
 unfold zeq at h
 split at h
 ·rw[A38 h]
 ·exact XI h
def B8s:TD→TD→Bool
 | .int k,.int k'=>decide (k=k')
 | .bool,.bool=>true
 | .string,.string=>true
 | .pointer e,.pointer e'=>decide (e=e')
 | .slice e n,.slice e' n'=>decide (e=e')&&decide (n=n')
 | .array m e n,.array m' e' n'=>decide (m=m')&&decide (e=e')&&decide (n=n')
 | .struct fs,.struct fs'=>decide (fs=fs')
 | .map k e,.map k' e'=>decide (k=k')&&decide (e=e')
 | .func,.func=>true
 | .iface,.iface=>true
 | .other,.other=>true
 |_,_=>false
theorem A6X {a b:TD} (h:B8s a b=true):a=b:=by
 unfold B8s at h
 split at h<;>simp at h<;>try rfl
 ·rw[h]
 ·rw[h]
 ·rw[h.1,h.2]
 ·rw[h.1.1,h.1.2,h.2]
 ·rw[h]
 ·rw[h.1,h.2]
def tiB (P:Program) (t:Nat) (i:TI):Bool:=
 match P.info? t with
 |some x=>match P.underlying t,x.zero with
  |some u,some z=>Nat.beq x.size i.size&&(Nat.beq x.bytes i.bytes&&(B8s (td P u) i.d&&(zeq (ofV z) i.zero&& !A7l i.d)))
  |_,_=>false
 |none=>false
def TiR (P:Program) (t:Nat) (i:TI):Prop:=TOk1 P t i∧A7l i.d=false
theorem B8r {P:Program} (t:Nat) (i:TI) (h:tiB P t i=true):TiR P t i:=by
 unfold tiB at h
 split at h
 ·rename_i x hx
  split at h
  ·rename_i u z hu hz
   simp only[Iv,l14] at h
   obtain⟨h1,h2,h3,h4,h5⟩:=h
   refine⟨⟨?_,?_,?_⟩,h5⟩
   ·rw[hx];simp[Uq h1,Uq h2]
   ·rw[hx];simp[hz,A9B h4]
   ·rw[hu];simp[A6X h3]
  ·cases h
 ·cases h
def FnR (P:Program) (f:Nat) (x:XFn):Prop:=(P.funcs[f]?).map (λfn=>(fn.body,fn.ntmps,fn.results.toList,fn.name== "runtime.NumGoroutine"))=some (some x.c,x.n,x.rs,false)
theorem FnR.ex {P:Program} {f:Nat} {x:XFn} (h:FnR P f x):∃fn,P.funcs[f]?=some fn∧fn.body=some x.c∧fn.ntmps=x.n∧fn.results.toList=x.rs∧(fn.name== "runtime.NumGoroutine")=false:=by
 unfold FnR at h
 cases hf:P.funcs[f]? with
 |none=>rw[hf] at h;simp at h
 |some fn=>
  rw[hf] at h
  simp only[l0x,l0y,Prod.mk.injEq] at h
  exact⟨fn,rfl,h.1,h.2.1,h.2.2.1,h.2.2.2⟩
def DrR (E:XE) (_:Nat) (x:XFn):Prop:=OT (ZQ E ⟨false,x.lv,x.fz,x.n,x.rc⟩) x.c=true
def eqR (P:Program) (t:Nat) (ks:List LK):Prop:=leaves P 6 t=some (true,ks)∧P.eqGuardType P.depth t=false
def glR (_:Nat) (cs:List AV):Prop:=cs.all isV=true
def C3g (P:Program) (l:Lie):Prop:=liesAt P P.depth l.1 (l.2.1/P.cellsOf l.1) l.2.2.1 l.2.2.2 1=true∧(P.info? l.2.2.2).isSome=true
theorem C28 {E:XE} {P:Program} (hty:E.ty.All (TiR P)) (hT:E.T=E.ty.get) (hmix:P.follows .mixedOrders=true) (hgl:E.gl.All glR) (hf:E.ft.All (FnR P)) (hd:E.ft.All (DrR E)) (he:E.eqt.All (eqR P)) (hl:∀l∈E.lie,C3g P l) (hu:P.underlying E.up=some .unsafePointer) (hn:∀f,E.ne f=true→WA P f):XE.Ok ZQ E P where
 ty:= λt i h=>(hty.get (by rw[hT] at h;exact h)).1
 pos:= λt i e esz h hh h0=>by
  have:=(hty.get (by rw[hT] at h;exact h)).2
  subst h0
  rcases hh with hh|⟨n,hh⟩<;>(rw[hh] at this;simp[A7l] at this)
 mix:=hmix
 gl:= λg cs h=>hgl.get h
 fn:= λf x h=>by
  obtain⟨fn,h1,h2,h3,h4,h5⟩:=(hf.get h).ex
  exact⟨fn,h1,h2,h3,h4,h5,hd.get h⟩
 eq:= λt ks h=>⟨(he.get h).1,(he.get h).2⟩
 lie:= λe n o u h=>hl _ h
 up:= λ_=>hu
 ne:=hn
theorem A3W {P:Program} {f:Nat} {fn:Func} (hf:P.funcs[f]?=some fn) (hname:(fn.name== "runtime.NumGoroutine")=false) (hb:fn.body.isNone=true) (hn:Extern.findNext fn=none) (he:Extern.find fn=some Extern.AbiNoEscape.same):WA P f:=by
 intro x w
 have:Extern.AbiNoEscape.same #[x]=pure x:=rfl
 have hname':¬fn.name= "runtime.NumGoroutine" :=by simpa using hname
 have hb':fn.body=none:=by simpa using hb
 simp[callFunc,hf,hname',hb',hn,he,mark,this]
 rfl
end Go.Abs
end
