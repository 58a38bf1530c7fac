import Derived.KernelRfl
import Derived.Test.YtlbhdmbfdcohhaaGreatDoorQ10
import Derived.Test.YtlbhdmbfdcohhaaGreatDoorQ11
set_option linter.all false
set_option maxHeartbeats 100000000
noncomputable section
namespace Go.Proofs
open Go.Abs
set_option maxRecDepth 100000
def KF (L:Nat) (R:Rt) (K:KV) (j:JV) (ih:O9):O9:= λd b e f a c=>Ak Ab .lss a f λk=>As k (Bv Ax e a λl=>Aq AE l c λm=>AH AF AE c λg n=>Ck AE g m n λh=>Aq AE g h λo=>R.call GR [b,o] h λp i=>F2 .not p λq=>As q (K (AV.tup [(AV.v (.slice none 0 0)),a,(Ar 90)]) i) (Ak Ab .add a (Ar 1) λr=>ih d b e f r i)) (j d b c)
def Iv (L:Nat) (R:Rt) (K:KV) (a:JV) (n:Nat):O9:=GX z5N (KF L R K a) n
theorem T9 (L:Nat) (R:Rt) (K:KV) (a:JV) (n:Nat):Iv L R K a (n+1)=KF L R K a (Iv L R K a n):=rfl
def L8:IB:= λL R a0 H K=>CU B4 a0 H λa h=>AL 0 a λag=>Aq Ab ag h λah=>Ak Ab .lss ah (Ar 1) λg=>Bw g h (AL 0 a (AJ h)) λai i=>Bw g i (Aq Ab ai i (AJ i)) λaj q=>Bw g q (Ak Ab .gtr aj (Ar 1000000) (AJ q)) λak r=>AG g E4 ak λc=>Bw c r (AL 1 a (AJ r)) λal j=>Bw c j (Aq Am al j (AJ j)) λam s=>Bw c s (AN Am am (AJ s)) λan t=>Bw c t (Ak Ab .gtr an (Ar 6) (AJ t)) λao u=>AG c E4 ao λd=>Bw d u (AL 1 a (AJ u)) λap k=>Bw d k (Aq Am ap k (AJ k)) λaq w=>Bw d w (some ((AV.fn (.func Fh) [] []),w)) λar l=>Bw d l (Ah R Cn [aq,ar] l (AJ l)) λau x=>AG d E4 au λe=>Bw e x (AL 2 a (AJ x)) λav m=>Bw e m (Aq Ax av m (AJ m)) λaw y=>Bw e y (AN Ax aw (AJ y)) λax z=>Bw e z (Ak Ab .lss ax (Ar 1) (AJ z)) λay aa=>AG e E4 ay λf=>Bw f aa (AL 2 a (AJ aa)) λaz n=>Bw f n (Aq Ax az n (AJ n)) λa1 ab=>Bw f ab (AN Ax a1 (AJ ab)) λa2 ac=>Bw f ac (Ak Ab .gtr a2 (Ar 40) (AJ ac)) λa3 o=>AG f E4 a3 λa4=>As a4 (K (AV.tup [(AV.v (.slice none 0 0)),(Ar (-1)),(Ar 90)]) o) (AL 1 a λa5=>Aq Am a5 o λa6=>R.call LQ [a6] o λa7 ad=>jn (λae p b=>Aj (IC p Av) λa8=>Aj (AL 2 a8 Av) λa9=>Aj (Aq Am a9 b Av) λaA=>Aj (IC p Av) λaB=>Aj (AL 2 aB Av) λaC=>Aj (Aq Am aC b Av) λaD=>Aj (AN Am aD Av) λaE=>Aj (Ak Ab .sub aE (Ar 1) Av) λaF=>Aj (Bv Am aA aF Av) λaG=>Aj (Aq Ag aG b Av) λaH=>Aj (AL 3 ae Av) λaI=>Aj (Aq Ag aI b Av) λaJ=>Aj (Uc Ii .neq aH aJ Av) λaK=>As aK (Aj (AL 2 ae Av) λaL=>Aj (Aq Ax aL b Av) λaM=>Aj (AN Ax aM Av) λaN=>K (AV.tup [(AV.v (.slice none 0 0)),aN,(Ar 90)]) b) (IC p λaO=>AL 2 aO λaP=>Aq Am aP b λaQ=>K (AV.tup [aQ,(Ar 0),(Ar 0)]) b)) λaR=>AL 2 a λaS=>Aq Ax aS ad λaf=>AN Ax af λaT=>jn (λaU aV aW=>aR aU aV aW) λaX=>Iv L R K aX L a a7 af aT (Ar 0) ad)
def HB:JF:= λL R a0 a1 H K=>Fl Ab BK a1 λb=>Ak BK .and b (AV.v (.int .u64 31)) λa=>Ak An .shl a0 a λc=>Ak BK .sub (AV.v (.int .u64 32)) a λd=>Ak An .shr a0 d λe=>Ak An .or c e λf=>K f H
def A2n (L:Nat) (R:Rt) (K:KV) (k:Jt) (ih:Jt):Jt:= λb d=>AN Af b λl=>Ak Ab .gtr l (Ar 0) λa=>AU a d (some (b,d)) λm e=>AU a e (some (b,e)) λn f=>AU a f (AN Af n (AJ f)) λo g=>AU a g (Ak Ab .sub o (Ar 1) (AJ g)) λp h=>AU a h (Bv Af m p (AJ h)) λq c=>AU a c (Aq Ab q c (AJ c)) λr i=>AU a i (Ak Ab .eql r (Ar 0) (AJ i)) λs j=>AG a s CH λt=>As t (AN Af b λu=>Ak Ab .sub u (Ar 1) λv=>El Af b none (some v) none λw=>ih w j) (k b j)
def A2m (L:Nat) (R:Rt) (K:KV) (a:Jt) (n:Nat):Jt:=GX z1N (A2n L R K a) n
def A4m:IB:= λL R a0 H K=>jn (λa b=>K a b) λc=>jn (λd e=>c d e) λf=>A2m L R K f L a0 H
def Zo:IB:= λL R a0 H K=>Ah R LR [a0] H λa=>K a H
def Ww:JF:= λL R a0 a1 H K=>Ah R Px [a0,a1] H λe=>AA e 0 λh=>AA e 1 λi=>AA e 2 λj=>AH CK A4 H λb k=>AH CK A4 k λc l=>Ck A4 b h l λm=>Ck A4 c i m λd=>F2 .not j λn=>As n (K (Ar 0) d) (AL 0 b λo=>Aq Em o d λf=>AU f d (AL 0 c (AJ d)) λp g=>AU f g (Aq Em p g (AJ g)) λq a=>AG f q CH λr=>As r (AL 1 c λs=>Aq Af s a λt=>AL 1 b λu=>Aq Af u a λv=>Ah R HH [t,v] a λw=>K w a) (AL 0 b λx=>Aq Em x a λy=>As y (K (Ar (-1)) a) (AL 0 c λz=>Aq Em z a λaa=>As aa (K (Ar 1) a) (AL 1 b λab=>Aq Af ab a λac=>AL 1 c λad=>Aq Af ad a λae=>Ah R HH [ac,ae] a λaf=>K af a))))
def A1l (L:Nat) (R:Rt) (K:KV) (e:Jt) (ih:JV):JV:= λc a b=>AN Af a λf=>Ak Ab .gtr f (Ar 0) λg=>As g (Ah R Mm [c,a] b λd=>AA d 0 λi=>AA d 1 λh=>ih a h b) (e c b)
def A1k (L:Nat) (R:Rt) (K:KV) (a:Jt) (n:Nat):JV:=GX z2N (A1l L R K a) n
def A2G:JF:= λL R a0 a1 H K=>Ah R Px [a0,a1] H λb=>AA b 0 λg=>AA b 1 λh=>AA b 2 λi=>AH CK A4 H λc j=>AH CK A4 j λd k=>Ck A4 c g k λl=>Ck A4 d h l λa=>F2 .not i λm=>As m (K (AV.tup [(AV.v (.string ⟨⟨[]⟩⟩)),(Ar 30)]) a) (Aj (AL 1 c Av) λn=>Aj (Aq Af n a Av) λo=>Aj (AL 1 d Av) λp=>Aj (Aq Af p a Av) λq=>jn (λr e=>Bi A4 [(1,1,r)] λs=>Ah R Je [s] e λf=>AA f 0 λt=>AA f 1 λu=>K (AV.tup [t,u]) e) λw=>jn (λx y=>w x y) λz=>A1k L R K z L o q a)
def A2H:JF:= λL R a0 a1 H K=>Ah R Px [a0,a1] H λh=>AA h 0 λw=>AA h 1 λx=>AA h 2 λy=>AH CK A4 H λf z=>AH CK A4 z λd aa=>Ck A4 f w aa λab=>Ck A4 d x ab λk=>F2 .not y λe=>Bw e k (AL 1 d (AJ k)) λac i=>Bw e i (Aq Af ac i (AJ i)) λad l=>Bw e l (AN Af ad (AJ l)) λae m=>Bw e m (Ak Ab .eql ae (Ar 0) (AJ m)) λaf a=>AG e E4 af λag=>As ag (K (AV.tup [(AV.v (.string ⟨⟨[]⟩⟩)),(AV.v (.string ⟨⟨[]⟩⟩)),(Ar 30)]) a) (AL 1 f λah=>Aq Af ah a λai=>AL 1 d λaj=>Aq Af aj a λak=>Ah R Mm [ai,ak] a λn=>AA n 0 λo=>AA n 1 λj=>jn (λal am b=>AL 0 f λan=>Aq Em an b λao=>AL 0 d λap=>Aq Em ap b λaq=>Ak Em .neq ao aq λar=>Bi A4 [(0,1,ar),(1,1,al)] λau=>Ah R Je [au] b λp=>AA p 0 λav=>AA p 1 λq=>Ak Ab .neq q (Ar 0) λaw=>As aw (K (AV.tup [(AV.v (.string ⟨⟨[]⟩⟩)),(AV.v (.string ⟨⟨[]⟩⟩)),q]) b) (Bi A4 [(1,1,am)] λax=>Ah R Je [ax] b λr=>AA r 0 λay=>AA r 1 λaB=>K (AV.tup [av,ay,(Ar 0)]) b)) λs=>AL 0 f λaz=>Aq Em az a λg=>AU g a (some (j,a)) λa2 t=>AU g t (AN Af a2 (AJ t)) λa3 u=>AU g u (Ak Ab .gtr a3 (Ar 0) (AJ u)) λa4 c=>AG g a4 CH λa5=>As a5 (Aj (Ah R A2O [] c Av) λa6=>Aj (Ah R Ti [o,a6] c Av) λa7=>Aj (AL 1 d Av) λa8=>Aj (Aq Af a8 c Av) λa9=>Aj (Ah R SI [a9,j] c Av) λaA=>s a7 aA c) (s o j c))
def Dq (L:Nat) (R:Rt) (K:KV) (g:Hp→Al) (ih:Lg):Lg:= λc d e a b=>Ak Ab .lss a e λh=>As h (Bv A5 c a λi=>Aq BG i b λj=>Eb (E L) R d [j] b λk f=>As k (K a f) (Ak Ab .add a (Ar 1) λl=>ih c d e l f)) (g b)
def Cy (L:Nat) (R:Rt) (K:KV) (a:Hp→Al) (n:Nat):Lg:=GX z4N (Dq L R K a) n
theorem Ip (L:Nat) (R:Rt) (K:KV) (a:Hp→Al) (n:Nat):Cy L R K a (n+1)=Dq L R K a (Cy L R K a n):=rfl
def D0:JF:= λL R a0 a1 H K=>jn (λa=>K (Ar (-1)) a) λb=>AN A5 a0 λc=>jn (λd=>b d) λe=>Cy L R K e L a0 a1 c (Ar 0) H
def FR:IB:= λL R a0 H K=>AN Ad a0 λa=>Ak Ab .neq a (Ar 32) λb=>K b H
def EE:IB:= λL R a0 H K=>CU BQ a0 H λa b=>K (AV.fn (.func DO) [] [a]) b
def KB (L:Nat) (R:Rt) (K:KV) (g:JV) (ih:Lg):Lg:= λe d b c a=>AN Ae b λh=>Ak Ab .lss c h λi=>As i (jn (λj k=>Ak Ab .add c (Ar 1) λl=>ih e j b l k) λm=>jn (λn o=>m n o) λf=>Aj (Bv Ae b c Av) λp=>Aj (Aq Ad p a Av) λq=>Aj (Ak Ab .sub c (Ar 1) Av) λr=>Aj (Bv Ae b r Av) λs=>Aj (Aq Ad s a Av) λt=>Aj (Ak Ad .neq q t Av) λu=>As u (Bv Ae b c λv=>Aq Ad v a λw=>Bv Ae e d λx=>Ck Ad x w a λy=>Ak Ab .add d (Ar 1) λz=>f z y) (f d a)) (g e d a)
def KA (L:Nat) (R:Rt) (K:KV) (a:JV) (n:Nat):Lg:=GX z4N (KB L R K a) n
def Es (L:Nat) (R:Rt) (K:KV) (f:Jt) (ih:Lg):Lg:= λa b g h c=>AN Ae a λi=>Ak Ab .lss b i λj=>As j (Aj (Bv Ae a b Av) λk=>Aj (Aq Ad k c Av) λl=>Aj (Ak Ab .sub b (Ar 1) Av) λm=>Aj (Bv Ae a m Av) λn=>Aj (Aq Ad n c Av) λo=>Aj (Ak Ad .eql l o Av) λp=>As p (El Ae a (some b) none none λq=>jn (λd e r=>El Ae d (some e) none none λs=>B7F 1 Ad s r λt=>El Ae d none (some e) none λu=>K u t) λv=>jn (λw x y=>v w x y) λz=>KA L R K z L a b q (Ar 1) c) (Ak Ab .add b (Ar 1) λaa=>ih a aa g h c)) (f a c)
def Db (L:Nat) (R:Rt) (K:KV) (a:Jt) (n:Nat):Lg:=GX z4N (Es L R K a) n
theorem JW (L:Nat) (R:Rt) (K:KV) (a:Jt) (n:Nat):Db L R K a (n+1)=Es L R K a (Db L R K a n):=rfl
def E3:IB:= λL R a0 H K=>AN Ae a0 λa=>Ak Ab .lss a (Ar 2) λb=>As b (K a0 H) (jn (λc d=>K c d) λe=>jn (λf g=>e f g) λh=>Db L R K h L a0 (Ar 1) AV.dk AV.dk H)
def Vk (L:Nat) (R:Rt) (K:KV) (ih:JV):JV:= λd a b=>Aq BK a b λh=>Ak BK .lss h (AV.v (.int .u64 128)) λe=>Aq BK a b λi=>Ak BK .and i (AV.v (.int .u64 127)) λj=>Fl BK AD j λk=>Eb (E L) R d [k,e] b λl f=>F2 .not l λg=>Bw g f (some (e,f)) λm c=>AG g E4 m λn=>As n (K (AV.tup []) c) (Aq BK a c λo=>Ak BK .shr o (AV.v (.int .u64 7)) λp=>Ck BK a p c λq=>ih d a q)
def Vj (L:Nat) (R:Rt) (K:KV) (n:Nat):JV:=GX z2N (Vk L R K) n
def Wq:JF:= λL R a0 a1 H K=>Vj L R K L a0 a1 H
def IV:IB:= λL R a0 H K=>CU Aw a0 H λb a=>Aq Ag b a λc=>Ah R Gh [c] a λd=>F2 .not d λe=>K e a
def Dd:JF:= λL R a0 a1 H K=>Ah R D1 [a0,a1] H λa=>Ak Ab .geq a (Ar 0) λb=>K b H
def L5:IB:= λL R a0 H K=>Ah R XA0 [] H λa=>Bi Hd [(0,1,a),(1,1,a0)] λb=>CU Ob b H λc d=>K c d
def GP:JF:= λL R a0 a1 H K=>CU AF a1 H λe b=>Aj (IC a0 Av) λx=>Aj (AL 0 x Av) λn=>Aj (Aq CJ n b Av) λf=>Aj (AL 0 e Av) λo=>Aj (Aq Ab o b Av) λg=>Aj (A6p .i64 g λy=>Zx Bf true f y b Av) λh=>Aj (AA h 0 Av) λz=>Aj (AA h 1 Av) λaa=>DK (AH BP Bf b λv H=>some (v,H)) λi c=>DK (Ck Bf i z c λH=>some (AV.v undef,H)) λa2 p=>Rg (AW (Aq CJ n c Av) f) (Rg (AW (Aq Ab o c Av) g) (Rg (AW (A6p .i64 g λab=>Zx Bf true f ab c Av) h) (F2 .not aa λa=>Bw a p (some (a0,p)) λac j=>Bw a j (Aq Bf i j (AJ j)) λad k=>Bw a k (Aq AE e k (AJ k)) λae l=>Bw a l (Ah R B2 [ac,ad,ae] l (AJ l)) λaf q=>Bw a q (F2 .not af (AJ q)) λag d=>AG a E4 ag λah=>As ah (K CH d) (AL 2 i λai=>Aq Aa ai d λaj=>Aq AE e d λak=>Eb (E L) R aj [a0,ak] d λr al=>AA r 0 λam=>AA r 1 λan=>AH Aw Ag al λs ao=>Ck Ag s am ao λm=>Aj (IC a0 Av) λap=>Aj (AL 2 ap Av) λt=>Aj (Aq Am t m Av) λu=>Aj (Aq Ag s m Av) λaq=>DK (Ft Aw 20 Ag 1 [(0,20,aq)] m λv H=>some (v,H)) λar w=>DK (Ea Aw 20 Ag Am u ar w λv H=>some (v,H)) λau av=>Aj (IC a0 Av) λaw=>Aj (AL 2 aw Av) λax=>DK (Ck Am ax au av λH=>some (AV.v undef,H)) λa3 ay=>Rg (AW (Aq Am t w Av) u) (Ak Ab .eql an (Ar 0) λaz=>K az ay)))))
def Fq:JF:= λL R a0 a1 H K=>CU AF a1 H λd k=>AH Aw Ag k λb c=>AL 1 d λl=>Aq Ao l c λm=>Ah R BU [m] c λn=>F2 .not n λa=>Bw a c (AL 3 d (AJ c)) λo e=>Bw a e (Aq Ag o e (AJ e)) λp f=>Bw a f (Ah R Gh [p] f (AJ f)) λq h=>Bw a h (F2 .not q (AJ h)) λr g=>AG a E4 r λs=>As s (Bi Ag [] λt=>Ck Ag b t g λi=>Aq Ag b i λu=>K (AV.tup [u,(Ar 90)]) i) (AL 3 d λv=>Aq Ag v g λw=>Ck Ag b w g λj=>Aq Ag b j λx=>K (AV.tup [x,(Ar 0)]) j)
def GO:JF:= λL R a0 a1 H K=>CU AF a1 H λb f=>AH Aw Ag f λc a=>Aj (IC a0 Av) λg=>Aj (AL 2 g Av) λh=>Aj (Aq Am h a Av) λi=>Aj (AL 24 b Av) λj=>Aj (Aq Ab j a Av) λk=>Aj (Bv Am i k Av) λl=>Aj (Aq Ag l a Av) λm=>Aj (IC a0 Av) λn=>Aj (AL 2 n Av) λo=>Aj (Aq Am o a Av) λp=>Aj (AL 25 b Av) λq=>Aj (Aq Ab q a Av) λr=>Aj (Bv Am p r Av) λs=>Aj (Aq Ag s a Av) λt=>Aj (Ah R Pp [m,t] a Av) λd=>Aj (AA d 0 Av) λu=>Aj (AA d 1 Av) λw=>DK (Ck Ag c u a λH=>some (AV.v undef,H)) λy e=>Aq Ag c e λx=>K (AV.tup [x,w]) e
def EG:JF:= λL R a0 a1 H K=>CU AF a1 H λb f=>AH Aw Ag f λc a=>Aj (IC a0 Av) λg=>Aj (AL 2 g Av) λh=>Aj (Aq Am h a Av) λi=>Aj (AL 24 b Av) λj=>Aj (Aq Ab j a Av) λk=>Aj (Bv Am i k Av) λl=>Aj (Aq Ag l a Av) λm=>Aj (IC a0 Av) λn=>Aj (AL 2 n Av) λo=>Aj (Aq Am o a Av) λp=>Aj (AL 25 b Av) λq=>Aj (Aq Ab q a Av) λr=>Aj (Bv Am p r Av) λs=>Aj (Aq Ag s a Av) λt=>Aj (Ah R Hi [m,t] a Av) λd=>Aj (AA d 0 Av) λu=>Aj (AA d 1 Av) λw=>DK (Ck Ag c u a λH=>some (AV.v undef,H)) λy e=>Aq Ag c e λx=>K (AV.tup [x,w]) e
def FA:JF:= λL R a0 a1 H K=>CU AF a1 H λb f=>AH Aw Ag f λc a=>Aj (IC a0 Av) λg=>Aj (AL 2 g Av) λh=>Aj (Aq Am h a Av) λi=>Aj (AL 24 b Av) λj=>Aj (Aq Ab j a Av) λk=>Aj (Bv Am i k Av) λl=>Aj (Aq Ag l a Av) λm=>Aj (IC a0 Av) λn=>Aj (AL 2 n Av) λo=>Aj (Aq Am o a Av) λp=>Aj (AL 25 b Av) λq=>Aj (Aq Ab q a Av) λr=>Aj (Bv Am p r Av) λs=>Aj (Aq Ag s a Av) λt=>Aj (Ah R Ps [m,t] a Av) λd=>Aj (AA d 0 Av) λu=>Aj (AA d 1 Av) λw=>DK (Ck Ag c u a λH=>some (AV.v undef,H)) λy e=>Aq Ag c e λx=>K (AV.tup [x,w]) e
def Fp:JF:= λL R a0 a1 H K=>CU AF a1 H λb f=>AH Aw Ag f λc a=>Aj (IC a0 Av) λg=>Aj (AL 2 g Av) λh=>Aj (Aq Am h a Av) λi=>Aj (AL 24 b Av) λj=>Aj (Aq Ab j a Av) λk=>Aj (Bv Am i k Av) λl=>Aj (Aq Ag l a Av) λm=>Aj (IC a0 Av) λn=>Aj (AL 2 n Av) λo=>Aj (Aq Am o a Av) λp=>Aj (AL 25 b Av) λq=>Aj (Aq Ab q a Av) λr=>Aj (Bv Am p r Av) λs=>Aj (Aq Ag s a Av) λt=>Aj (Ah R Pt [m,t] a Av) λd=>Aj (AA d 0 Av) λu=>Aj (AA d 1 Av) λw=>DK (Ck Ag c u a λH=>some (AV.v undef,H)) λy e=>Aq Ag c e λx=>K (AV.tup [x,w]) e
def Gc:JF:= λL R a0 a1 H K=>CU AF a1 H λb o=>AH Aw Ag o λc f=>AL 23 b λp=>Aq Ab p f λq=>Ak Ab .eql q (Ar 0) λd=>Bw d f (AL 23 b (AJ f)) λr g=>Bw d g (Aq Ab r g (AJ g)) λs i=>Bw d i (Ak Ab .lss s (Ar (-4)) (AJ i)) λt j=>AG d E4 t λe=>Bw e j (AL 23 b (AJ j)) λu h=>Bw e h (Aq Ab u h (AJ h)) λw k=>Bw e k (Ak Ab .gtr w (Ar 4) (AJ k)) λx a=>AG e E4 x λy=>As y (Bi Ag [] λz=>Ck Ag c z a λl=>Aq Ag c l λaa=>K (AV.tup [aa,(Ar 90)]) l) (Aj (IC a0 Av) λab=>Aj (AL 2 ab Av) λac=>Aj (Aq Am ac a Av) λad=>Aj (AL 24 b Av) λae=>Aj (Aq Ab ae a Av) λaf=>Aj (Bv Am ad af Av) λag=>Aj (Aq Ag ag a Av) λah=>Aj (AL 23 b Av) λai=>Aj (Aq Ab ai a Av) λaj=>Aj (Bi DG [(0,1,aj),(1,1,(Ar 1))] Av) λak=>Aj (Ah R Pq [ah,ak] a Av) λm=>Aj (AA m 0 Av) λal=>Aj (AA m 1 Av) λam=>DK (Ck Ag c al a λH=>some (AV.v undef,H)) λao n=>Aq Ag c n λan=>K (AV.tup [an,am]) n)
def Wu:IB:= λL R a0 H K=>Ah R N7 [a0,(AV.v (.string ⟨⟨[45]⟩⟩))] H λa=>Ak Ad .eql a (AV.v (.string ⟨⟨[]⟩⟩)) λb=>Bw b H (some (a,H)) λm g=>Bw b g (AN Ad m (AJ g)) λn h=>Bw b h (Ak Ab .gtr n (Ar 200) (AJ h)) λo i=>AG b E4 o λc=>Bw c i (some (a,i)) λp e=>Bw c e (Ah R A1E [p,(AV.v (.string ⟨⟨[48,49,50,51,52,53,54,55,56,57]⟩⟩))] e (AJ e)) λq j=>Bw c j (Ak Ad .neq q (AV.v (.string ⟨⟨[]⟩⟩)) (AJ j)) λr f=>AG c E4 r λs=>As s (K CH f) (Ak Ad .eql a0 (AV.v (.string ⟨⟨[48]⟩⟩)) λd=>Bw d f (some (a,f)) λt k=>Bw d k (SM Ad Ad t (Ar 0) (AJ k)) λu l=>Bw d l (Ak AD .neq u (AV.v (.int .u8 48)) (AJ l)) λw x=>AG d E4 w λy=>K y x)
def A19:JF:= λL R a0 a1 H K=>AH CK A4 H λa j=>AH CK A4 j λb e=>Ah R LR [a0] e λk=>F2 .not k λc=>Bw c e (some (a1,e)) λl f=>Bw c f (Ah R LR [l] f (AJ f)) λm i=>Bw c i (F2 .not m (AJ i)) λn d=>AG c E4 n λo=>As o (Bi A4 [] λp=>Bi A4 [] λq=>Ck A4 a p d λr=>Ck A4 b q r λg=>Aq A4 a g λs=>Aq A4 b g λt=>K (AV.tup [s,t,CH]) g) (Ah R SX [a0] d λu=>Ah R SX [a1] d λv=>Ck A4 a u d λw=>Ck A4 b v w λh=>Aq A4 a h λx=>Aq A4 b h λy=>K (AV.tup [x,y,E4]) h)
def FY:Operand×Array Tmp×Code×Code:=Wh (C54) 0
def Q6:JF:= λL R a0 a1 H K=>CU Eu a1 H λd j=>AH CV Ab j λa b=>AN Af a0 λk=>Aq Af d b λl=>AN Af l λm=>Ak Ab .neq k m λn=>As n (AN Af a0 λo=>Aq Af d b λp=>AN Af p λq=>Ah R WR [o,q] b λr=>Ck Ab a r b λe=>Aq Ab a e λs=>K s e) (jn (λf t=>Ck Ab f (Ar 0) t λg=>Aq Ab f g λu=>K u g) λv=>Ah R DU [a0] b λh=>jn (λw x=>v w x) λi=>Xv R 33 h [(3,d),(4,a),(5,AV.dk),(6,AV.dk),(18,h),(19,AV.dk),(20,AV.dk),(21,AV.dk),(22,AV.dk),(23,AV.dk),(24,AV.dk),(25,AV.dk),(26,AV.dk),(27,AV.dk),(28,AV.dk),(29,AV.dk),(30,AV.dk),(31,AV.dk),(32,AV.dk)] (FY).2.1 (FY).2.2.1 (FY).2.2.2 b λy c=>Wn y (i a c) (Aq Ab a c λz=>K z c) (λaa=>@Bool.rec (λ_=>Al) (none) (i a c) (Nat.beq aa 0)) (λ_=>none))
def Hz:Operand×Array Tmp×Code×Code:=Wh (C53) 0
def Tg:JF:= λL R a0 a1 H K=>CU Eu a1 H λo p=>AH Eu Af p λa q=>AH Eu Af q λd r=>AN Af a0 λi=>eMk CV 1 Ab i i r λs t=>Ck Af a s t λj=>jn (λe b f=>Aj (Aq Af e f Av) λu=>DK (R.call F0 [u] f λv H=>some (v,H)) λw k=>Aj (Aq Af b k Av) λg=>DK (Ck Af e w k λH=>some (AV.v undef,H)) λah l=>DK (Ck Af b g l λH=>some (AV.v undef,H)) λai h=>Rg (AW (Aq Af b f Av) g) (Rg (AW (Aq Af b l Av) g) (Aq Af e h λx=>Aq Af b h λy=>K (AV.tup [x,y]) h))) λz=>Ah R DU [a0] j λm=>jn (λaa ab ac=>z aa ab ac) λn=>Xv R 41 m [(3,o),(4,a),(5,d),(6,AV.dk),(7,AV.dk),(8,AV.dk),(9,AV.dk),(14,m),(15,AV.dk),(16,AV.dk),(17,AV.dk),(18,AV.dk),(19,AV.dk),(20,AV.dk),(21,AV.dk),(22,AV.dk),(23,AV.dk),(24,AV.dk),(25,AV.dk),(26,AV.dk),(27,AV.dk),(28,AV.dk),(29,AV.dk),(30,AV.dk),(31,AV.dk),(32,AV.dk),(33,AV.dk),(34,AV.dk),(35,AV.dk),(36,AV.dk),(37,AV.dk)] (Hz).2.1 (Hz).2.2.1 (Hz).2.2.2 j λad c=>Wn ad (n a d c) (Aq Af a c λae=>Aq Af d c λaf=>K (AV.tup [ae,af]) c) (λag=>@Bool.rec (λ_=>Al) (none) (n a d c) (Nat.beq ag 0)) (λ_=>none)
def Hy:Operand×Array Tmp×Code×Code:=Wh (C52) 0
def Tf:IB:= λL R a0 H K=>CU CK a0 H λa c=>AL 1 a λj=>Aq Af j c λk=>AN Af k λl=>Ak Ab .eql l (Ar 0) λm=>As m (K (AV.tup [(AV.v (.string ⟨⟨[48]⟩⟩)),(Ar 0)]) c) (AH CP Bn c λd e=>jn (λn o p=>R.call CM [o] p λf b=>AN Ad f λq=>Ak Ab .gtr q (Ar 200) λr=>As r (K (AV.tup [(AV.v (.string ⟨⟨[]⟩⟩)),(Ar 30)]) b) (AL 0 n λs=>Aq Em s b λt=>As t (Ak Ad .add (AV.v (.string ⟨⟨[45]⟩⟩)) f λu=>K (AV.tup [u,(Ar 0)]) b) (K (AV.tup [f,(Ar 0)]) b))) λw=>AL 1 a λx=>Aq Af x e λy=>Ah R DU [y] e λh=>jn (λz aa ab=>w z aa ab) λi=>Xv R 43 h [(1,a),(2,(AV.v (.string ⟨⟨[]⟩⟩))),(3,(Ar 0)),(4,d),(5,AV.dk),(6,AV.dk),(7,AV.dk),(15,h),(16,AV.dk),(17,AV.dk),(18,AV.dk),(19,AV.dk),(20,AV.dk),(21,AV.dk),(22,AV.dk),(23,AV.dk),(24,AV.dk),(25,AV.dk),(26,AV.dk),(27,AV.dk),(28,AV.dk),(29,AV.dk),(30,AV.dk),(31,AV.dk),(32,AV.dk)] (Hy).2.1 (Hy).2.2.1 (Hy).2.2.2 e λac g=>Wn ac (i a d g) (K (AV.tup [(AV.v (.string ⟨⟨[]⟩⟩)),(Ar 0)]) g) (λad=>@Bool.rec (λ_=>Al) (none) (i a d g) (Nat.beq ad 0)) (λ_=>none))
def Sp:JF:= λL R a0 a1 H K=>CU Eu a0 H λa c=>CU Eu a1 c λd b=>Aq Af a b λe=>AN Af e λf=>R.call Ih [f,(Ar 0),(AV.fn (.func Pw) [] [a,d])] b λg h=>R.call F0 [g] h λi j=>K i j
def A2F:JF:= λL R a0 a1 H K=>AH AB Ao H λb a=>Ah R Qd [a0] a λe=>Ah R Qd [a1] a λf=>Ah R Zv [e,f] a λc=>AA c 0 λg=>AA c 1 λh=>Ck Ao b g a λd=>Aq Ao b d λi=>K (AV.tup [i,h]) d
def D6 (L:Nat) (R:Rt) (K:KV) (g:Hp→Al) (ih:Lg):Lg:= λc d e a b=>Ak Ab .lss a e λh=>As h (Bv Ae d a λi=>Aq Ad i b λj=>Eb (E L) R c [j] b λk f=>F2 .not k λl=>As l (K (AV.tup []) f) (Ak Ab .add a (Ar 1) λm=>ih c d e m f)) (g b)
def C6 (L:Nat) (R:Rt) (K:KV) (a:Hp→Al) (n:Nat):Lg:=GX z4N (D6 L R K a) n
theorem IP (L:Nat) (R:Rt) (K:KV) (a:Hp→Al) (n:Nat):C6 L R K a (n+1)=D6 L R K a (C6 L R K a n):=rfl
def DN:JF:= λL R a0 a1 H K=>Aq Ae a1 H λa=>AN Ae a λb=>jn (λc=>K (AV.tup []) c) λd=>C6 L R K d L a0 a b (Ar 0) H
def Dp (L:Nat) (R:Rt) (K:KV) (g:Hp→Al) (ih:Lg):Lg:= λc d e a b=>Ak Ab .lss a e λh=>As h (Bv Am c a λi=>Aq Ag i b λj=>Eb (E L) R d [j] b λk f=>As k (K a f) (Ak Ab .add a (Ar 1) λl=>ih c d e l f)) (g b)
def Cx (L:Nat) (R:Rt) (K:KV) (a:Hp→Al) (n:Nat):Lg:=GX z4N (Dp L R K a) n
theorem Io (L:Nat) (R:Rt) (K:KV) (a:Hp→Al) (n:Nat):Cx L R K a (n+1)=Dp L R K a (Cx L R K a n):=rfl
def Dz:JF:= λL R a0 a1 H K=>jn (λa=>K (Ar (-1)) a) λb=>AN Am a0 λc=>jn (λd=>b d) λe=>Cx L R K e L a0 a1 c (Ar 0) H
def XX (L:Nat) (R:Rt) (K:KV) (g:JV) (ih:Kf):Kf:= λd a b c=>AN Ad a λh=>Ak Ab .gtr h (Ar 0) λi=>As i (AN Ad a λj=>Ak Ab .sub j (Ar 4) λk=>eMM false (Ar 0) k λe=>El Ad a (some e) none none λl=>Ah R A1G [l] c λf=>AA f 0 λm=>AA f 1 λw=>AL 1 b λn=>Aq Af n c λo=>Ft CV 1 Ab 1 [(0,1,m)] c λp q=>Ea CV 1 Ab Af o p q λr s=>AL 1 b λt=>Ck Af t r s λu=>El Ad a none (some e) none λv=>ih d v b u) (g d b c)
def XW (L:Nat) (R:Rt) (K:KV) (a:JV) (n:Nat):Kf:=GX z3N (XX L R K a) n
def Zn:IB:= λL R a0 H K=>AH CK A4 H λi b=>Ah R N7 [a0,(AV.v (.string ⟨⟨[45]⟩⟩))] b λc=>AN Ad c λj=>AN Ad a0 λk=>Ak Ab .lss j k λl=>Bi A4 [(0,1,l)] λm=>AH CK A4 b λd n=>Ck A4 d m n λo=>jn (λe a f=>AL 1 a λp=>Aq Af p f λq=>R.call F0 [q] f λr s=>AL 1 a λt=>Ck Af t r s λg=>Aq A4 a g λu=>Ck A4 e u g λh=>Aq A4 e h λw=>K w h) λx=>jn (λy z aa=>x y z aa) λab=>XW L R K ab L i c d o
def JX:IB:= λL R a0 H K=>CU Eu a0 H λa b=>K (AV.fn (.func II) [] [a]) b
def PP (L:Nat) (R:Rt) (K:KV) (k:Jt) (ih:Jt):Jt:= λb d=>AN Af b λl=>Ak Ab .gtr l (Ar 0) λa=>AU a d (some (b,d)) λm e=>AU a e (some (b,e)) λn f=>AU a f (AN Af n (AJ f)) λo g=>AU a g (Ak Ab .sub o (Ar 1) (AJ g)) λp h=>AU a h (Bv Af m p (AJ h)) λq c=>AU a c (Aq Ab q c (AJ c)) λr i=>AU a i (Ak Ab .eql r (Ar 0) (AJ i)) λs j=>AG a s CH λt=>As t (AN Af b λu=>Ak Ab .sub u (Ar 1) λv=>El Af b none (some v) none λw=>ih w j) (k b j)
def PN (L:Nat) (R:Rt) (K:KV) (a:Jt) (n:Nat):Jt:=GX z1N (PP L R K a) n
def Qz:IB:= λL R a0 H K=>jn (λa b=>K a b) λc=>jn (λd e=>c d e) λf=>PN L R K f L a0 H
def UM:JF:= λL R a0 a1 H K=>CU Eu a0 H λa c=>CU CV a1 c λd b=>Aq Af a b λe=>AN Af e λf=>R.call Ih [f,(Ar 0),(AV.fn (.func Ry) [] [a,d])] b λg h=>R.call F0 [g] h λi j=>K i j
def PK:Y3N:= λL R a0 a1 a2 H K=>Aj (Aq Aa a1 H Av) λc=>Aj (Ak Ab .add a0 (Ar 1) Av) λd=>DK (Eb (E L) R c [d] H λv H=>some (v,H)) λe a=>Aj (Aq Af a2 a Av) λb=>Aj (Ah R HH [e,b] a Av) λf=>Aj (Ak Ab .gtr f (Ar 0) Av) λg=>Rg (AW (Aq Af a2 H Av) b) (K g a)
def MK (L:Nat) (R:Rt) (K:KV) (m:Jt) (ih:O9):O9:= λf g h i b j=>Ak Ab .lss b f λc=>Bw c j (some (g,j)) λn k=>Bw c k (Ak Ab .neq n (Ar 0) (AJ k)) λo l=>AG c E4 o λp=>As p (Eb (E L) R h [b] l λq d=>Ak Ab .add q g λa=>jn (λr s t=>Ft CV 1 Ab 1 [(0,1,s)] t λu v=>Ea CV 1 Ab Af i u v λw x=>Ak Ab .add b (Ar 1) λy=>ih f r h w y x) λe=>Ak Ab .lss a (Ar 0) λz=>As z (Ak Ab .add a (Ar 10000) λaa=>e (Ar (-1)) aa d) (Ak Ab .geq a (Ar 10000) λab=>As ab (Ak Ab .quo a (Ar 10000) λac=>Ak Ab .rem a (Ar 10000) λad=>e ac ad d) (e (Ar 0) a d))) (m i l)
def MJ (L:Nat) (R:Rt) (K:KV) (a:Jt) (n:Nat):O9:=GX z5N (MK L R K a) n
def Nv:Y3N:= λL R a0 a1 a2 H K=>Ak Ab .add a0 (Ar 1) λa=>eMk CV 1 Ab (Ar 0) a H λb c=>jn (λd e=>K d e) λf=>jn (λg h=>f g h) λi=>MJ L R K i L a0 a1 a2 b (Ar 0) c
def UN:JF:= λL R a0 a1 H K=>AN Af a0 λa=>Ak Ab .lss a1 a λb=>As b (Bv Af a0 a1 λc=>Aq Ab c H λd=>K d H) (K (Ar 0) H)
def Pf:Y3N:= λL R a0 a1 a2 H K=>Aj (Aq Af a1 H Av) λa=>Aj (Ah R Kc [a,a0] H Av) λb=>Aj (Aq Af a2 H Av) λc=>Aj (Ah R Kc [c,a0] H Av) λd=>Aj (Ak Ab .sub b d Av) λe=>K e H
def Zm:JF:= λL R a0 a1 H K=>AH AB Ao H λd b=>Ah R K5 [a0] b λh=>F2 .not h λa=>Bw a b (some (a1,b)) λi c=>Bw a c (Ah R K5 [i] c (AJ c)) λj e=>Bw a e (F2 .not j (AJ e)) λk l=>AG a E4 k λm=>Bi HQ [(0,1,m)] λn=>CU YI n l λo p=>R.call PQ [o,a0,a1] p λf q=>AA f 0 λr=>AA f 1 λs=>Ck Ao d r q λg=>Aq Ao d g λt=>K (AV.tup [t,s]) g
def Wv:IB:= λL R a0 H K=>Ah R Bt [a0] H λa=>K a H
def Ir (L:Nat) (R:Rt) (K:KV) (f:Hp→Al) (ih:Kf):Kf:= λc d a b=>Ak Ab .geq a (Ar 0) λg=>As g (Aq Af d b λh=>Bv Af h a λi=>Aq Ab i b λj=>Eb (E L) R c [a,j] b λk e=>F2 .not k λl=>As l (K (AV.tup []) e) (Ak Ab .sub a (Ar 1) λm=>ih c d m e)) (f b)
def Iq (L:Nat) (R:Rt) (K:KV) (a:Hp→Al) (n:Nat):Kf:=GX z3N (Ir L R K a) n
def IF:JF:= λL R a0 a1 H K=>Aq Af a1 H λa=>AN Af a λb=>Ak Ab .sub b (Ar 1) λc=>jn (λd=>K (AV.tup []) d) λe=>Iq L R K e L a0 a1 c H
def Rj:Y3N:= λL R a0 a1 a2 H K=>Aj (Aq Af a1 H Av) λa=>Aj (Ah R Kc [a,a0] H Av) λb=>Aj (Aq Ab a2 H Av) λc=>Aj (Ak Ab .mul b c Av) λd=>K d H
def PJ:Y3N:= λL R a0 a1 a2 H K=>AH AB Ao H λa d=>IC a0 λo=>AL 0 o λp=>Aq Em p d λe=>Bw e d (some (a2,d)) λq f=>Bw e f (Ak Ad .eql q (AV.v (.string ⟨⟨[48]⟩⟩)) (AJ f)) λr b=>AG e E4 r λs=>As s (Bi Ao [] λt=>Ck Ao a t b λg=>Aq Ao a g λu=>K (AV.tup [u,(Ar 40)]) g) (jn (λh i w=>R.call Hq [a0,(AV.fn (.func Vf) [] []),h,i] w λj x=>R.call J7 [a0,h,j] x λy z=>R.call J7 [a0,i,j] z λaa ab=>Bi Ao [(0,1,y),(1,1,aa)] λac=>AH AB Ao ab λk ad=>Ck Ao k ac ad λc=>IC a0 λae=>AL 0 ae λaf=>Aq Em af c λag=>As ag (Bi Ao [] λah=>Ck Ao a ah c λl=>Aq Ao a l λai=>K (AV.tup [ai,(Ar 40)]) l) (Aq Ao k c λaj=>Ck Ao a aj c λm=>Aq Ao a m λak=>K (AV.tup [ak,(Ar 0)]) m)) λn=>Ah R Qe [a2,(AV.v (.string ⟨⟨[48]⟩⟩))] b λal=>Ak Ab .lss al (Ar 0) λam=>As am (R.call Hq [a0,(AV.fn (.func Ve) [] []),(AV.v (.string ⟨⟨[48]⟩⟩)),a1] b λan ao=>R.call Hq [a0,(AV.fn (.func Ve) [] []),(AV.v (.string ⟨⟨[48]⟩⟩)),a2] ao λap aq=>n an ap aq) (n a1 a2 b))
def TO:Y4N:= λL R a0 a1 a2 a3 H K=>IC a0 λb=>AL 0 b λc=>Aq Em c H λd=>As d (K (AV.v (.string ⟨⟨[]⟩⟩)) H) (Eb (E L) R a1 [a2,a3] H λa e=>AA a 0 λf=>AA a 1 λg=>Ak Ab .neq g (Ar 0) λh=>IC a0 λi=>AL 0 i λj=>Ck Em j h e λk=>K f k)
def Pd:Y3N:= λL R a0 a1 a2 H K=>R.call Hq [a0,(AV.fn (.func MR) [] []),a1,a2] H λa b=>K a b
def MA:JF:= λL R a0 a1 H K=>Ah R A2P [a0,a1] H λa=>AA a 0 λb=>AA a 1 λd=>AA a 2 λc=>K (AV.tup [b,c]) H
end Go.Proofs
end
noncomputable section
namespace Go.Abs
open Go.RowKit
theorem A7Q {α:Type}:∀(l:List α) (k:Nat) (a:α),k<l.length→splice l k [a]=l.set k a:=by
 intro l
 induction l with
 |nil=>intro k a h;simp at h
 |cons b l ih=>
  intro k a h
  cases k with
  |zero=>simp[splice]
  |succ k=>
   have:=ih k a (by simpa using h)
   simp only[splice,List.length_singleton] at this⊢
   simp[this]
theorem RO {α:Type} (l vs:List α) (h:vs.length=l.length):splice l 0 vs=vs:=by simp[splice,h]
theorem Ba {ty:Nat} {i:TI} {H:Hp} {cs:List AV} {K:KV} (hz:i.zero= .agg cs):AH ty i H K=K (.ptr (A3 H) 0 0) ((A3 H,.cells true ty cs)::H):=by
 unfold AH
 rw[hz,Da,BW];rfl
theorem A8P {ty:Nat} {v:Value} {H:Hp} {K:KV} (h1:AV.one (.v v)=true):CU ty (.v v) H K=K (.ptr (A3 H) 0 0) ((A3 H,.cells true ty [.v v])::H):=by
 unfold CU
 rw[Da,FZ,BW]
 have:(B6 (.v v)).all AV.one=true:=by simp[B6,h1]
 rw[this];rfl
theorem C28 {ty n:Nat} {cs:List AV} {H:Hp} {K:KV}:CU ty (.list n cs) H K=K (.ptr (A3 H) 0 0) ((A3 H,.cells true ty [.list n cs])::H):=by
 unfold CU
 rw[Da,FZ,BW];rfl
theorem Fa {ty:Nat} {cs:List AV} {H:Hp} {K:KV} (h1:cs.all AV.one=true):CU ty (.agg cs) H K=K (.ptr (A3 H) 0 0) ((A3 H,.cells true ty cs)::H):=by
 unfold CU
 rw[Da,FZ,BW]
 have:(B6 (.agg cs)).all AV.one=true:=h1
 rw[this];rfl
theorem A9 {H:Hp} {r:Nat} {x:Row} {q:Bool} {e:Nat} {cs:List AV} (h:Au H r=some x):Au (upd H r (.cells q e cs)) r=some (.cells q e cs):=by
 rw[Ef h];rfl
theorem E1 {i:TI} {s p e:Nat} {q:Bool} {cs:List AV} {v:AV} {H:Hp} {K:Hp→Al} (hl:Au H s=some (.cells q e cs)) (hp:p<cs.length) (hz:i.size=1) (hv:B6 v=[v]) (h1:AV.one v=true):Ck i (.ptr s p 0) v H K=K (upd H s (.cells q e (cs.set p v))):=by
 have e1:Ck i (.ptr s p 0) v H K=Ks H s λx=>A2l x λq e cs=>GT v λvs=>Ia vs 0 λn=>ck (Nat.beq n i.size) (ck (Qs vs) (EL (Nat.add p 0) vs cs λcs'=>Oe H s (.cells q e cs') K)):=rfl
 rw[e1,Cm hl]
 show GT v _=_
 rw[Da,hv,CA,hz,FZ]
 have:[v].all AV.one=true:=by simp[h1]
 rw[this]
 show EL p [v] cs _=_
 rw[KO _ _ _ _ (by simp;omega),A7Q _ _ _ hp,D8]
theorem B0 {i:TI} {s e:Nat} {q:Bool} {cs vs:List AV} {H:Hp} {K:Hp→Al} (hl:Au H s=some (.cells q e cs)) (hp:vs.length=cs.length) (hz:i.size=cs.length) (h1:vs.all AV.one=true):Ck i (.ptr s 0 0) (.agg vs) H K=K (upd H s (.cells q e vs)):=by
 have e1:Ck i (.ptr s 0 0) (.agg vs) H K=Ks H s λx=>A2l x λq e cs=>GT (.agg vs) λvs=>Ia vs 0 λn=>ck (Nat.beq n i.size) (ck (Qs vs) (EL 0 vs cs λcs'=>Oe H s (.cells q e cs') K)):=rfl
 rw[e1,Cm hl]
 show(GT (.agg vs) λvs=>Ia vs 0 λn=>ck (Nat.beq n i.size) (ck (Qs vs) (EL 0 vs cs λcs'=>Oe H s (.cells q e cs') K)))=_
 have hc:B6 (.agg vs)=vs:=rfl
 rw[Da,hc,CA,hz,FZ,h1,hp,K1,l29]
 show EL 0 vs cs _=_
 rw[KO _ _ _ _ (by omega),RO _ _ hp,D8]
theorem Bk {t:TI} {H:Hp} {r e:Nat} {q:Bool} {cs:List AV} {K:AV→Al} (h:t.d.isAgg=true) (hz:t.size=cs.length) (hl:Au H r=some (.cells q e cs)):Aq t (.ptr r 0 0) H K=K (.agg cs):=by
 have:Aq t (.ptr r 0 0) H K=Ks H r λx=>Ma x λ_ cs=>@Bool.rec (λ_=>Al) (hdK (Dg 0 cs) K) (FU t.size (Dg 0 cs) λc=>K (.agg c)) t.d.isAgg:=rfl
 rw[this,h,Cm hl]
 show FU t.size (Dg 0 cs) _=_
 rw[Ct,l1n,hz,MM _ _ _ (by omega),l06]
theorem AQ {t:TI} {H:Hp} {r p e:Nat} {q:Bool} {cs:List AV} {K:AV→Al} (h:t.d.isAgg=false) (hl:Au H r=some (.cells q e cs)) (hp:p<cs.length):Aq t (.ptr r p 0) H K=K (cs.getD p .dk):=by
 have:Aq t (.ptr r p 0) H K=Ks H r λx=>Ma x λ_ cs=>@Bool.rec (λ_=>Al) (hdK (Dg (Nat.add p 0) cs) K) (FU t.size (Dg (Nat.add p 0) cs) λc=>K (.agg c)) t.d.isAgg:=rfl
 rw[this,h,Cm hl]
 show hdK (Dg p cs) K=_
 rw[Ct,l11 hp,Th,Ka hp];rfl
theorem DE {t:TI} {m e s:Nat} {z:Int} (k:Nat) {K:AV→Al} (hd:t.d= .array m e 1) (hz:z=k) (hk:k<m):Bv t (.ptr s 0 0) (.v (.int .i64 z)) K=K (.ptr s k 0):=by
 subst hz
 have e1:Bv t (.ptr s 0 0) (.v (.int .i64 (k:Int))) K=iN (k:Int) λn=>ck (Nat.blt n m) (fN (Nat.add 0 (Nat.mul n 1)) λq=>K (.ptr s q 0)):=by
  obtain⟨a,b,d,z⟩:=t;simp only at hd;subst hd;rfl
 rw[e1,J6,DL]
 have h2:Nat.add 0 (Nat.mul k 1)=k:=by show 0+k*1=k;omega
 have h3:Nat.blt k m=true:=by rw[TU];exact hk
 rw[h2,h3];rfl
theorem A9W {t j:TI} {m e:Nat} {cs:List AV} {z:Int} (k:Nat) {K:AV→Al} (hd:t.d= .array m e 1) (hj:j.d.isAgg=false) (hz:z=k) (hk:k<m) (hc:m≤cs.length):SM t j (.agg cs) (.v (.int .i64 z)) K=K (cs.getD k .dk):=by
 subst hz
 have e1:SM t j (.agg cs) (.v (.int .i64 (k:Int))) K=iN (k:Int) λn=>ck (Nat.blt n m) (Y9 j (Dg (Nat.mul n 1) cs) K):=by
  obtain⟨a,b,d,z⟩:=t;simp only at hd;subst hd;rfl
 rw[e1,J6]
 have h2:Nat.mul k 1=k:=l28 k
 have h3:Nat.blt k m=true:=by rw[TU];exact hk
 have h4:k<cs.length:=by omega
 rw[h2,h3,Ct,l11 h4,Th,Ka h4]
 show Y9 j (cs[k]::cs.drop (k+1)) K=_
 unfold Y9
 rw[hj];rfl
theorem Hf {r p k:Nat} {K:AV→Al}:IC (.ptr r p k) K=K (.ptr r p k):=id rfl
theorem Uk {R:Rt} {r N:Nat} {args:List AV} {t:Tm} {ps:Array Tmp} {aZ bd:Code} {H:Hp} {K:KV} (hl:Au H r=some (.loop N t ps aZ bd (some none))) (hp:A3f N ps.toList=true):
 Qg R r args H K=rdK R.run N t ps args aZ bd H (λH2 K2=>Fb H2 r true none K2) (λe H4=>match e with
  | .normal=>Fb H4 r false (some none) λH5=>K (.v (.bool true)) H5
  | .ret=>Fb H4 r false (some (some .ret)) λH5=>K (.v (.bool false)) H5
  | .exit id=>Fb H4 r false (some (some (.exit id))) λH5=>K (.v (.bool false)) H5
  | .goto l=>Fb H4 r false (some (some (.goto l))) λH5=>K (.v (.bool false)) H5
  |_=>none):=by
 unfold Qg
 rw[Cm hl]
 show ck (A3f N ps.toList) _=_
 rw[hp];rfl
theorem Up {H:Hp} {r N:Nat} {t:Tm} {ps:Array Tmp} {aZ bd:Code} {to:Option (Option Code)} {K:Hp→Al} (hl:Au H r=some (.loop N t ps aZ bd (some none))):Fb H r true to K=K (upd H r (.loop N t ps aZ bd to)):=by
 unfold Fb
 rw[Cm hl]
 show Oe H r _ K=_
 rw[D8]
theorem Uo {H:Hp} {r N:Nat} {t:Tm} {ps:Array Tmp} {aZ bd:Code} {to:Option (Option Code)} {K:Hp→Al} (hl:Au H r=some (.loop N t ps aZ bd none)):Fb H r false to K=K (upd H r (.loop N t ps aZ bd to)):=by
 unfold Fb
 rw[Cm hl]
 show Oe H r _ K=_
 rw[D8]
theorem Iy {H:Hp} {r N:Nat} {x:Row} {t:Tm} {ps:Array Tmp} {aZ bd:Code} {to:Option (Option Code)} (h:Au H r=some x):Au (upd H r (.loop N t ps aZ bd to)) r=some (.loop N t ps aZ bd to):=by
 rw[Ef h];rfl
def BT.allB {α:Type} (c:Nat→α→Bool):BT α→Bool
 | .leaf=>true
 | .node k v l r=>c k v&&(l.allB c&&r.allB c)
theorem B4X {α:Type} {c:Nat→α→Bool} {p:Nat→α→Prop} (h:∀k v,c k v=true→p k v):∀{b:BT α},b.allB c=true→b.All p:=by
 intro b
 induction b with
 |leaf=>intro _;trivial
 |node k v l r ihl ihr=>
  intro hb
  simp only[BT.allB,Jp] at hb
  exact⟨h k v hb.1,ihl hb.2.1,ihr hb.2.2⟩
def A89:TD→Bool
 | .slice _ 0=>true
 | .array _ _ 0=>true
 |_=>false
def A9d:AV→AV→Bool
 | .v (.int k n),.v (.int k' n')=>decide (k=k')&&decide (n=n')
 | .v (.bool b),.v (.bool b')=>b==b'
 | .v (.string s),.v (.string s')=>s.data.toList.isEmpty&&s'.data.toList.isEmpty
 | .v (.slice none 0 0),.v (.slice none 0 0)=>true
 | .v (.pointer none),.v (.pointer none)=>true
 | .v (.map none),.v (.map none)=>true
 | .v .nilFunc,.v .nilFunc=>true
 | .v .nilIface,.v .nilIface=>true
 |_,_=>false
def Xp:List AV→List AV→Bool
 |[],[]=>true
 |a::as',b::bs=>A9d a b&&Xp as' bs
 |_,_=>false
def zeq:AV→AV→Bool
 | .agg cs,.agg ds=>Xp cs ds
 |a,b=>A9d a b
theorem Yt {a b:AV} (h:A9d a b=true):a=b:=by
 unfold A9d at h
 split at h<;>simp at h<;>try rfl
 ·rw[h.1,h.2]
 ·rw[h]
 ·rename_i s s'
  obtain⟨⟨l⟩⟩:=s
  obtain⟨⟨l'⟩⟩:=s'
  simp at h
  rw[h.1,h.2]
theorem A3N:∀{as' bs:List AV},Xp as' bs=true→as'=bs:=by
 intro as'
 induction as' with
 |nil=>intro bs h;cases bs<;>simp[Xp] at h⊢
 |cons a as' ih=>
  intro bs h
  cases bs with
  |nil=>simp[Xp] at h
  |cons b bs=>
   simp only[Xp,Jp] at h
   rw[Yt h.1,ih h.2]
theorem B0a {a b:AV} (h:zeq a b=true):a=b:=by
 unfold zeq at h
 split at h
 ·rw[A3N h]
 ·exact Yt h
def B97:TD→TD→Bool
 | .int k,.int k'=>decide (k=k')
 | .bool,.bool=>true
 | .string,.string=>true
 | .pointer e,.pointer e'=>decide (e=e')
 | .slice e n,.slice e' n'=>decide (e=e')&&decide (n=n')
 | .array m e n,.array m' e' n'=>decide (m=m')&&decide (e=e')&&decide (n=n')
 | .struct fs,.struct fs'=>decide (fs=fs')
 | .map k e,.map k' e'=>decide (k=k')&&decide (e=e')
 | .func,.func=>true
 | .iface,.iface=>true
 | .other,.other=>true
 |_,_=>false
theorem A7M {a b:TD} (h:B97 a b=true):a=b:=by
 unfold B97 at h
 split at h<;>simp at h<;>try rfl
 ·rw[h]
 ·rw[h]
 ·rw[h.1,h.2]
 ·rw[h.1.1,h.1.2,h.2]
 ·rw[h]
 ·rw[h.1,h.2]
def tiB (P:Program) (t:Nat) (i:TI):Bool:=
 match P.info? t with
 |some x=>match P.underlying t,x.zero with
  |some u,some z=>Nat.beq x.size i.size&&(Nat.beq x.bytes i.bytes&&(B97 (td P u) i.d&&(zeq (ofV z) i.zero&& !A89 i.d)))
  |_,_=>false
 |none=>false
def TiR (P:Program) (t:Nat) (i:TI):Prop:=TOk1 P t i∧A89 i.d=false
theorem B96 {P:Program} (t:Nat) (i:TI) (h:tiB P t i=true):TiR P t i:=by
 unfold tiB at h
 split at h
 ·rename_i x hx
  split at h
  ·rename_i u z hu hz
   simp only[Jp,l14] at h
   obtain⟨h1,h2,h3,h4,h5⟩:=h
   refine⟨⟨?_,?_,?_⟩,h5⟩
   ·rw[hx];simp[UY h1,UY h2]
   ·rw[hx];simp[hz,B0a h4]
   ·rw[hu];simp[A7M h3]
  ·cases h
 ·cases h
def FnR (P:Program) (f:Nat) (x:XFn):Prop:=(P.funcs[f]?).map (λfn=>(fn.body,fn.ntmps,fn.results.toList,fn.name== "runtime.NumGoroutine"))=some (some x.c,x.n,x.rs,false)
theorem FnR.ex {P:Program} {f:Nat} {x:XFn} (h:FnR P f x):∃fn,P.funcs[f]?=some fn∧fn.body=some x.c∧fn.ntmps=x.n∧fn.results.toList=x.rs∧(fn.name== "runtime.NumGoroutine")=false:=by
 unfold FnR at h
 cases hf:P.funcs[f]? with
 |none=>rw[hf] at h;simp at h
 |some fn=>
  rw[hf] at h
  simp only[l0x,l0y,Prod.mk.injEq] at h
  exact⟨fn,rfl,h.1,h.2.1,h.2.2.1,h.2.2.2⟩
def DrR (E:XE) (_:Nat) (x:XFn):Prop:=PB (A0t E ⟨false,x.lv,x.fz,x.n,x.rc⟩) x.c=true
def eqR (P:Program) (t:Nat) (ks:List LK):Prop:=leaves P 6 t=some (true,ks)∧P.eqGuardType P.depth t=false
def glR (_:Nat) (cs:List AV):Prop:=cs.all isV=true
def C44 (P:Program) (l:Lie):Prop:=liesAt P P.depth l.1 (l.2.1/P.cellsOf l.1) l.2.2.1 l.2.2.2 1=true∧(P.info? l.2.2.2).isSome=true
theorem C2T {E:XE} {P:Program} (hty:E.ty.All (TiR P)) (hT:E.T=E.ty.get) (hmix:P.follows .mixedOrders=true) (hgl:E.gl.All glR) (hf:E.ft.All (FnR P)) (hd:E.ft.All (DrR E)) (he:E.eqt.All (eqR P)) (hl:∀l∈E.lie,C44 P l) (hu:P.underlying E.up=some .unsafePointer) (hn:∀f,E.ne f=true→Xh P f):XE.Ok A0t E P where
 ty:= λt i h=>(hty.get (by rw[hT] at h;exact h)).1
 pos:= λt i e esz h hh h0=>by
  have:=(hty.get (by rw[hT] at h;exact h)).2
  subst h0
  rcases hh with hh|⟨n,hh⟩<;>(rw[hh] at this;simp[A89] at this)
 mix:=hmix
 gl:= λg cs h=>hgl.get h
 fn:= λf x h=>by
  obtain⟨fn,h1,h2,h3,h4,h5⟩:=(hf.get h).ex
  exact⟨fn,h1,h2,h3,h4,h5,hd.get h⟩
 eq:= λt ks h=>⟨(he.get h).1,(he.get h).2⟩
 lie:= λe n o u h=>hl _ h
 up:= λ_=>hu
 ne:=hn
theorem A4D {P:Program} {f:Nat} {fn:Func} (hf:P.funcs[f]?=some fn) (hname:(fn.name== "runtime.NumGoroutine")=false) (hb:fn.body.isNone=true) (hn:Extern.findNext fn=none) (he:Extern.find fn=some Extern.AbiNoEscape.same):Xh P f:=by
 intro x w
 have:Extern.AbiNoEscape.same #[x]=pure x:=rfl
 have hname':¬fn.name= "runtime.NumGoroutine" :=by simpa using hname
 have hb':fn.body=none:=by simpa using hb
 simp[callFunc,hf,hname',hb',hn,he,mark,this]
 rfl
end Go.Abs
end
