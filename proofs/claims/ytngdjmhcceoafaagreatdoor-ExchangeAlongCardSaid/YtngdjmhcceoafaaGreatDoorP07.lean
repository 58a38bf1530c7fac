import Derived.KernelRfl
import Derived.Test.YtngdjmhcceoafaaGreatDoorP06
set_option linter.all false
set_option maxHeartbeats 100000000
noncomputable section
namespace Go.Proofs
open Go.Abs
set_option maxRecDepth 100000
section
attribute [local irreducible] Ef Aq Az Bx E9 yZ wY Yr Go.Abs.Ap Ho Hf BZ uA Jc A1I Zv Xg Rj Go.Abs.Cx CV B1a Dw iA AF Bq YV hC Yq eMM L4 Mh eMk Yp A1z Wz A1y wX Ee E0 A1u A73 A3I Go.Abs.Mg gdV jn Wk LQ Lg QQ mI Ch rdK XA8 mV Ba An KC undef UInt8.ofNat
def KL:Y4N:= λL R a0 a1 a2 a3 H K=>An R Ou [] H λo=>An R Wv [a0] H λe=>R.call JS [e,a1] H λp ag=>Cx p 0 λf=>Cx p 1 λah=>R.call JS [e,a2] ag λq ai=>Cx q 0 λa=>Cx q 1 λaj=>R.call JS [e,a3] ai λr s=>Cx r 0 λg=>Cx r 1 λak=>Mg .not ah λh=>GT h s (some (aj,s)) λal t=>GT h t (Mg .not al (CX t)) λam u=>Ch h LW am λi=>GT i u (some (ak,u)) λan v=>GT i v (Mg .not an (CX v)) λao w=>Ch i LW ao λap=>Az ap (K HQ w) (R.call Ra [f,a,(A0 30)] w λj aq=>Cx j 0 λaC=>Cx j 1 λaD=>Cx j 2 λar=>R.call Ra [a,g,(A0 30)] aq λk x=>Cx k 0 λaE=>Cx k 1 λaF=>Cx k 2 λau=>Df o x (some (ar,x)) λav y=>Ch o av HQ λz=>Df z y (some (au,y)) λaw aa=>Ch z aw HQ λb=>Df b aa (some (a,aa)) λax ab=>Df b ab (some (f,ab)) λay l=>Df b l (An R Gv [ax,ay] l (CX l)) λaz ac=>Ch b az HQ λc=>Df c ac (some (g,ac)) λa4 ad=>Df c ad (some (a,ad)) λa5 m=>Df c m (An R Gv [a4,a5] m (CX m)) λa6 ae=>Ch c a6 HQ λd=>Df d ae (some (g,ae)) λa7 af=>Df d af (some (f,af)) λa8 n=>Df d n (An R Gv [a7,a8] n (CX n)) λa9 aA=>Ch d a9 HQ λaB=>K aB aA)
def VW:Y0N:= λL R H K=>BZ B6 [] λbn=>BZ B6 [] λbo=>An R I4 [bn,bo,Ti,Ti] H λbp=>Bx Ad Ae H λn bq=>E0 Ae n bp bq λo=>BZ B6 [(0,1,(A0 1)),(1,1,(A0 0)),(2,1,(A0 1)),(3,1,(A0 0)),(4,1,(A0 0)),(5,1,(A0 0))] λbr=>BZ B6 [(0,1,(A0 3)),(1,1,(A0 3)),(2,1,(A0 3)),(3,1,(A0 0)),(4,1,(A0 0)),(5,1,(A0 0))] λbs=>AF Ae n o λbt=>An R GU [bt] o λbu=>Yr 1 Ai 1 [(0,1,bu)] λbv=>An R I4 [br,bs,Ti,bv] o λbw=>Bx Ad Ae o λh bx=>E0 Ae h bw bx λx=>AF Ae h x λbz=>AF Ae n x λb0=>Yr 68 Ae 2 [(0,68,bz),(68,68,b0)] λb1=>R.call JS [b1,(A0 3)] x λay b2=>Cx ay 0 λp=>Cx ay 1 λb3=>R.call Ov [] b2 λa az=>Mg .not b3 λy=>GT y az (some (p,az)) λb4 a0=>GT y a0 (Rj BF CO .eql b4 (AV.v (.pointer none)) (CX a0)) λb5 a1=>Ch y LW b5 λz=>GT z a1 (some (a,a1)) λb6 a2=>GT z a2 (Rj BF CO .eql b6 (AV.v (.pointer none)) (CX a2)) λb7 b8=>Ch z LW b7 λq=>dD q b8 31 h Ac λb9 a3=>GT q a3 (Bq Ac b9 (CX a3)) λbA a4=>GT q a4 (Ap Ab .neq bA (A0 1) (CX a4)) λbB r=>Ch q LW bB λbC=>Az bC (K HQ r) (AF Ae n r λbD=>AF Ae h r λbE=>Yr 68 Ae 2 [(0,68,bD),(68,68,bE)] λbF=>R.call Qg [bF] r λi a5=>KC R CE [p] a5 λbG=>Bx A7 A9 a5 λj bH=>E0 A9 j bG bH λa6=>AF A9 j a6 λbI=>R.call Bm [a,bI] a6 λs t=>Aq (AF A9 j t AK) λbJ=>Aq (Ee Ac i (some (A0 1)) none none AK) λbK=>Aq (BZ A9 [(0,1,(A0 1)),(1,1,bK)] AK) λbL=>Aq (An R CU [bJ,bL] t AK) λbM=>Aq (Mg .not bM AK) λu=>GT u t (some (s,t)) λbN a7=>GT u a7 (Aq (Bq AB bN AK) (CX a7)) λbO a8=>GT u a8 (Aq (Ap Ab .neq bO (A0 1) AK) (CX a8)) λbP a9=>Aq (Ch u LW bP AK) λb=>GT b a9 (some (s,a9)) λbQ aA=>GT b aA (Aq (Dw AB bQ (A0 0) AK) (CX aA)) λbR aa=>GT b aa (Aq (AF A9 bR aa AK) (CX aa)) λbS aB=>GT b aB (some (i,aB)) λbT aC=>GT b aC (Aq (Ee Ac bT (some (A0 1)) none none AK) (CX aC)) λbU aD=>GT b aD (Aq (BZ A9 [(0,1,(A0 2)),(1,1,bU)] AK) (CX aD)) λbV ab=>GT b ab (Aq (An R CU [bS,bV] ab AK) (CX ab)) λbW aE=>GT b aE (Aq (Mg .not bW AK) (CX aE)) λbX ac=>Aq (Ch b LW bX AK) λbY=>Az bY (K HQ ac) (Dw AB s (A0 0) λbZ=>AF A9 bZ ac λca=>R.call Bm [p,ca] ac λad aF=>Aq (Bq AB ad AK) λcb=>Aq (Ap Ab .neq cb (A0 1) AK) λc=>GT c aF (some (ad,aF)) λcc aG=>GT c aG (Aq (Dw AB cc (A0 0) AK) (CX aG)) λcd ae=>GT c ae (Aq (AF A9 cd ae AK) (CX ae)) λce af=>GT c af (Aq (AF Ae h af AK) (CX af)) λcf aH=>GT c aH (Aq (Yr 68 Ae 1 [(0,68,cf)] AK) (CX aH)) λcg aI=>GT c aI (Aq (BZ A9 [(0,1,(A0 3)),(2,1,cg)] AK) (CX aI)) λch ag=>GT c ag (Aq (An R CU [ce,ch] ag AK) (CX ag)) λci aJ=>GT c aJ (Aq (Mg .not ci AK) (CX aJ)) λcj ah=>Aq (Ch c LW cj AK) λck=>Az ck (K HQ ah) (Dw AB ad (A0 0) λcl=>AF A9 cl ah λcm=>R.call Bm [a,cm] ah λai aj=>Aq (KC R CF [a] aj AK) λcn=>Aq (Bq Av cn AK) λco=>Aq (Ap Ab .eql co (A0 0) AK) λf=>Df f aj (some (a,aj)) λcp ak=>Df f ak (Aq (An R CM [cp] ak AK) (CX ak)) λcq aK=>Df f aK (some (i,aK)) λcr aL=>Df f aL (Aq (Ee Ac cr (some (A0 1)) none none AK) (CX aL)) λcs al=>Df f al (Aq (An R Gy [cq,cs] al AK) (CX al)) λct aM=>Aq (Ch f ct HQ AK) λw=>Aq (Bq AB ai AK) λcu=>Aq (Ap Ab .neq cu (A0 1) AK) λd=>GT d aM (some (ai,aM)) λcv aN=>GT d aN (Aq (Dw AB cv (A0 0) AK) (CX aN)) λcw am=>GT d am (Aq (AF A9 cw am AK) (CX am)) λcx aO=>GT d aO (some (i,aO)) λcy aP=>GT d aP (Aq (Ee Ac cy none (some (A0 1)) none AK) (CX aP)) λcz aQ=>GT d aQ (Aq (BZ A9 [(0,1,(A0 2)),(1,1,cz)] AK) (CX aQ)) λc0 an=>GT d an (Aq (An R CU [cx,c0] an AK) (CX an)) λc1 aR=>GT d aR (Aq (Mg .not c1 AK) (CX aR)) λc2 ao=>Aq (Ch d LW c2 AK) λc3=>Az c3 (K HQ ao) (Dw AB ai (A0 0) λc4=>AF A9 c4 ao λc5=>R.call Bm [p,c5] ao λaS ap=>Bq AB aS λc6=>Ap Ab .neq c6 (A0 1) λc7=>Az c7 (K HQ ap) (Dw AB aS (A0 0) λc8=>AF A9 c8 ap λc9=>R.call Bm [a,c9] ap λcA aT=>Df w aT (some (cA,aT)) λcB aU=>Df w aU (Aq (Bq AB cB AK) (CX aU)) λcC aV=>Df w aV (Aq (Ap Ab .eql cC (A0 0) AK) (CX aV)) λcD aW=>Aq (Ch w cD HQ AK) λk=>Df k aW (some (a,aW)) λcE aX=>Df k aX (R.call JY [cE] aX λv H=>some (v,H)) λcF aY=>Df k aY (some (i,aY)) λcG aq=>Df k aq (Aq (An R Gy [cF,cG] aq AK) (CX aq)) λcH aZ=>Aq (Ch k cH HQ AK) λl=>Df l aZ (some (a,aZ)) λcI ar=>Df l ar (Aq (An R CM [cI] ar AK) (CX ar)) λcJ ba=>Df l ba (Aq (Bq Ac cJ AK) (CX ba)) λcK bb=>Df l bb (Aq (Ap Ab .eql cK (A0 0) AK) (CX bb)) λcL bc=>Aq (Ch l cL HQ AK) λg=>Df g bc (some (a,bc)) λcM au=>Df g au (Aq (AF A9 j au AK) (CX au)) λcN bd=>Df g bd (R.call Bm [cM,cN] bd λv H=>some (v,H)) λcO be=>Df g be (Aq (Bq AB cO AK) (CX be)) λcP bf=>Df g bf (Aq (Ap Ab .eql cP (A0 0) AK) (CX bf)) λcQ bg=>Aq (Ch g cQ HQ AK) λm=>Df m bg (some (a,bg)) λcR bh=>Df m bh (Aq (BZ Ae [] AK) (CX bh)) λcS bi=>Df m bi (R.call EW [cR,cS] bi λv H=>some (v,H)) λcT bj=>Df m bj (Aq (Ap Ab .eql cT (A0 280) AK) (CX bj)) λcU av=>Aq (Ch m cU HQ AK) λe=>Df e av (Aq (AF A9 j av AK) (CX av)) λcV bk=>Df e bk (some (s,bk)) λcW bl=>Df e bl (Aq (Dw AB cW (A0 0) AK) (CX bl)) λcX aw=>Df e aw (Aq (AF A9 cX aw AK) (CX aw)) λcY ax=>Df e ax (Aq (An R CU [cV,cY] ax AK) (CX ax)) λcZ bm=>Df e bm (Aq (Mg .not cZ AK) (CX bm)) λda db=>Aq (Ch e da HQ AK) λdc=>K dc db)))))
def T6:Ka xA xA:= λL R K p ih g h b i e j f c k=>Ap Ab .lss c (A0 3) λd=>Df d k (some (b,k)) λq l=>Df d l (Bq Ac q (CX l)) λr m=>Df d m (Ap Ab .gtr r (A0 0) (CX m)) λs a=>Ch d s HQ λt=>Az t (jn (λu v=>Ap Ab .add c (A0 1) λw=>ih g h b i e j u w v) λx=>jn (λy z=>x y z) λn=>Dw Cl e (A0 6) λaa=>AF Ab aa a λab=>Ap Ab .mul (A0 4) c λac=>Ap Ab .shr ab ac λad=>An R XA5 [ad,(A0 16)] a λo=>Ap Ab .lss o (A0 14) λae=>Az ae (Bq Ac b λaf=>Ap Ab .rem o af λag=>Iv Ac b ag Ai a λah=>Hf Ar 1 Ai 1 [(0,1,ah)] a λai aj=>E9 Ar 1 Ai Ac f ai aj λak al=>n ak al) (n f a)) (p g h b i e j f c a)
def T3:JZ xA xA:=Kx z8N T6
theorem mX:Ld T3 T6:= λ_ _ _ _ _=>rfl
def T7:Ka Xl xA:= λL R K ah ih g t ai d bN bO bP bQ u=>Bq Mr g λaj=>Ap Ab .lss d aj λh=>Df h u (some (d,u)) λak v=>Df h v (Ap Ab .lss ak (A0 8) (CX v)) λal i=>Ch h al HQ λam=>Az am (jn (λan ao ap aq ar au av aw ax=>Ap Ab .add aq (A0 1) λay=>ih an ao ap ay ar au av aw ax) λaz=>jn (λa0 a1 a2 a3 a4 a5 a6 a7 a8=>az a0 a1 a2 a3 a4 a5 a6 a7 a8) λw=>Iv Mr g d Cl i λa9=>Bx YC Cl i λf aA=>E0 Cl f a9 aA λj=>Dw Cl f (A0 0) λaB=>AF Ab aB j λaC=>jn (λaD aE=>jn (λx y k z a l m aa b=>Dw Cl a (A0 1) λaF=>AF Ab aF b λaG=>Dw Cl a (A0 2) λaH=>AF Ab aH b λaI=>Dw Cl a (A0 3) λaJ=>AF Ab aJ b λaK=>Dw Cl a (A0 4) λaL=>AF Ab aL b λaM=>Dw Cl a (A0 5) λaN=>AF Ab aN b λaO=>BZ B6 [(0,1,l),(1,1,aG),(2,1,aI),(3,1,aK),(4,1,aM),(5,1,aO)] λaP=>Dw Cl a (A0 1) λaQ=>AF Ab aQ b λaR=>Dw Cl a (A0 2) λaS=>AF Ab aS b λaT=>Dw Cl a (A0 3) λaU=>AF Ab aU b λaV=>Dw Cl a (A0 4) λaW=>AF Ab aW b λaX=>Dw Cl a (A0 5) λaY=>AF Ab aY b λaZ=>Dw Cl a (A0 6) λba=>AF Ab ba b λbb=>BZ B6 [(0,1,aR),(1,1,aT),(2,1,aV),(3,1,aX),(4,1,aZ),(5,1,bb)] λbc=>Dw Cl a (A0 3) λbd=>AF Ab bd b λbe=>Dw Cl a (A0 4) λbf=>AF Ab bf b λbg=>Dw Cl a (A0 5) λbh=>AF Ab bh b λbi=>Dw Cl a (A0 6) λbj=>AF Ab bj b λbk=>BZ CK [(0,1,be),(1,1,bg),(2,1,bi),(3,1,bk)] λbl=>Hf HS 4 CK 1 [(0,4,bl)] b λbm bn=>R.call I4 [aP,bc,bm,m] bn λbo bp=>Bx Ad Ae bp λn bq=>E0 Ae n bo bq λe=>AF Ae n e λbr=>An R GU [br] e λo=>An R To [k,o] e λab=>Cx ab 0 λbs=>Cx ab 1 λbR=>Ap Ai .neq o (WO []) λp=>Df p e (some (bs,e)) λbt ac=>Df p ac (Mg .not bt (CX ac)) λbu q=>Ch p bu HQ λbv=>Az bv (AF Ae n q λbw=>Hf Ad 68 Ae 1 [(0,68,bw)] q λbx bz=>E9 Ad 68 Ae Av y bx bz λb0 b1=>Hf Ar 1 Ai 1 [(0,1,o)] b1 λb2 b3=>E9 Ar 1 Ai Ac k b2 b3 λb4 b5=>w x b0 b4 z a l m aa b5) (w x y k z a l m aa q)) λb6=>jn (λb7 b8 b9 bA bB bC bD bE bF=>b6 b7 b8 b9 bA bB bC bD bE bF) λbG=>T3 L R K bG L g t ai d f aD Ti (A0 0) aE) λad=>Ap Ab .lss d (A0 2) λc=>Df c j (Dw Cl f (A0 0) (CX j)) λbH r=>Df c r (AF Ab bH r (CX r)) λbI ae=>Df c ae (Ap Ab .quo bI (A0 3) (CX ae)) λbJ s=>Df c s (An R XA5 [bJ,(A0 4)] s (CX s)) λbK af=>Df c af (Ap Ab .gtr bK (A0 0) (CX af)) λbL ag=>Ch c bL HQ λbM=>Az bM (ad (A0 0) ag) (ad aC ag)) (ah t i)
def T4:JZ Xl xA:=Kx z8N T7
theorem mY:Ld T4 T7:= λ_ _ _ _ _=>rfl
def VI:IX:= λL R a0 H K=>jn (λa b=>K a b) λc=>jn (λd e=>c d e) λf=>T4 L R K f L a0 Ti Ti (A0 0) AV.dk AV.dk AV.dk AV.dk H
def Qz:Ka Xl QL:= λL R K n ih e g b c d=>Bq Av e λo=>Ap Ab .lss c o λp=>Az p (An R Rb [g,(A0 1048576)] d λq=>Ap Ab .shr q c λr=>Ap Ab .rem r (A0 2) λs=>Ap Ab .eql s (A0 1) λa=>Df a d (some (b,d)) λt h=>Df a h (some (e,h)) λu i=>Df a i (some (c,i)) λw j=>Df a j (Dw Av u w (CX j)) λx f=>Df a f (AF Ae x f (CX f)) λy k=>Df a k (R.call EW [t,y] k λv H=>some (v,H)) λz l=>Df a l (Ap Ab .neq z (A0 0) (CX l)) λaa m=>Ch a aa HQ λab=>Az ab (K (AV.tup [b,HQ]) m) (Ap Ab .add c (A0 1) λac=>ih e g b ac m)) (n b d)
def Qy:JZ Xl QL:=Kx uY Qz
theorem fV:Ld Qy Qz:= λ_ _ _ _ _=>rfl
def Si:Jq:= λL R a0 a1 H K=>R.call Ov [] H λa b=>Rj BF CO .eql a (AV.v (.pointer none)) λc=>Az c (K (AV.tup [a,HQ]) b) (jn (λd e=>K (AV.tup [d,LW]) e) λf=>jn (λg h=>f g h) λi=>Qy L R K i L a0 a1 a (A0 0) b)
def Ud:Ka F9N WN:= λL R K m ih f g h i d n j b e c a=>Dw AB b (A0 0) λo=>Eh 2 o Av a λp=>Bq Av p λq=>Ap Ab .lss c q λr=>Az r (jn (λs t u=>Ap Ab .add c (A0 1) λv=>ih f g h s t n j b e v u) λw=>jn (λx y z=>w x y z) λk=>Ap Ab .add i (A0 1) λl=>Dw AB b (A0 0) λaa=>Eh 2 aa Av a λab=>Iv Av ab c Ae a λac=>An R FG [ac] a λad=>An R Ts [e,ad] a λae=>Az ae (Ap Ab .add d (A0 1) λaf=>k l af a) (k l d a)) (m f g h i d j b e c a)
def Ub:JZ F9N WN:=Kx zU Ud
theorem oO:Ld Ub Ud:= λ_ _ _ _ _=>rfl
def Ue:Ka Us WN:= λL R K o ih f d g a b e h a0 a1 a2 c=>Ap Ab .lss h g λp=>Az p (Bq AB e λq=>Ap Ab .eql q (A0 0) λr=>Az r (K (AV.tup [a,b,LW]) c) (Dw AB e (A0 0) λs=>AF A9 s c λt=>R.call Bm [f,t] c λi j=>Bq AB i λu=>Ap Ab .eql u (A0 0) λv=>Az v (K (AV.tup [a,b,LW]) j) (R.call JY [d] j λw k=>An R CM [d] k λx=>E9 Ar 1 Ai Ac w x k λy z=>jn (λaa l ab ac ad ae m af ag n=>Dw AB m (A0 0) λah=>AF A9 ah n λai=>R.call Bm [l,ai] n λaj ak=>Ap Ab .add ae (A0 1) λal=>ih aa l ab ac ad aj al m af ag ak) λam=>jn (λan ao ap aq ar au av aw ax ay=>am an ao ap aq ar au av aw ax ay) λaz=>Ub L R K az L f d g a b e h i y (A0 0) z))) (o a b c)
def Uc:JZ Us WN:=Kx zU Ue
theorem oP:Ld Uc Ue:= λ_ _ _ _ _=>rfl
def VV:Y3N:= λL R a0 a1 a2 H K=>KC R CE [a0] H λa=>R.call Bm [a1,a] H λb c=>jn (λd e f=>K (AV.tup [d,e,HQ]) f) λg=>jn (λh i j=>g h i j) λk=>Uc L R K k L a0 a1 a2 (A0 0) (A0 0) b (A0 0) AV.dk AV.dk AV.dk c
def Q7:Ka (Hp->Af) Xk:= λL R K e ih d b c a=>Bq Ac b λf=>Ap Ab .lss c f λg=>Az g (Iv Ac b c Ai a λh=>An R Ts [d,h] a λi=>Mg .not i λj=>Az j (K HQ a) (Ap Ab .add c (A0 1) λk=>ih d b k a)) (e a)
def Q6:JZ (Hp->Af) Xk:=Kx z3N Q7
theorem fW:Ld Q6 Q7:= λ_ _ _ _ _=>rfl
def Sj:Jq:= λL R a0 a1 H K=>R.call JY [a0] H λa b=>R.call JY [a1] b λc d=>jn (λe=>K LW e) λf=>jn (λg=>f g) λh=>Q6 L R K h L a c (A0 0) d
def TC:Ka F7N F7N:= λL R K j ih f g h b d e c a=>Eh 31 b Ac a λk=>Bq Ac k λl=>Ap Ab .lss c l λm=>Az m (jn (λn o=>Ap Ab .add c (A0 1) λp=>ih f g h b d n p o) λq=>jn (λr s=>q r s) λi=>Eh 31 b Ac a λt=>Iv Ac t c Ai a λu=>Ap Ai .eql u e λv=>Az v (Ap Ab .sub (A0 (-1)) d λw=>An R JR [w] a λx=>i x a) (i e a)) (j f g h b d e c a)
def TA:JZ F7N F7N:=Kx z7N TC
theorem nH:Ld TA TC:= λ_ _ _ _ _=>rfl
def TE:Ka Xk F7N:= λL R K r ih d e j f c aC aD a=>CV 32 f λs=>Eh 1 s Al a λt=>Bq Al t λu=>Ap Ab .lss c u λv=>Az v (Dw B6 e (A0 1) λw=>AF Ab w a λx=>Ap Ab .quo x (A0 3) λy=>An R BL [y,(A0 1000)] a λz=>Ap Ab .add z c λaa=>An R JR [aa] a λab=>jn (λac ad=>jn (λae af ag g ah k ai l=>Eh 31 g Ac l λaj=>Hf Ar 1 Ai 1 [(0,1,k)] l λak al=>E9 Ar 1 Ai Ac aj ak al λam an=>CV 31 g λao=>E0 Ac ao am an λap=>Ap Ab .add ah (A0 1) λaq=>ih ae af ag g aq k ai ap) λar=>jn (λau av aw ax ay az a0 a1=>ar au av aw ax ay az a0 a1) λa2=>TA L R K a2 L d e j f c ac (A0 0) ad) λm=>Bq Ac d λa3=>Ap Ab .lss c a3 λb=>Df b a (some (d,a)) λa4 n=>Df b n (some (c,n)) λa5 o=>Df b o (Dw Ac a4 a5 (CX o)) λa6 h=>Df b h (AF Ai a6 h (CX h)) λa7 p=>Df b p (Bq Ai a7 (CX p)) λa8 q=>Df b q (Ap Ab .eql a8 (A0 32) (CX q)) λa9 i=>Ch b a9 HQ λaA=>Az aA (Iv Ac d c Ai i λaB=>m aB i) (m ab i)) (r e j f a)
def TB:JZ Xk F7N:=Kx z7N TE
theorem nI:Ld TB TE:= λ_ _ _ _ _=>rfl
def VM:Y4N:= λL R a0 a1 a2 a3 H K=>Ho Jm a0 H λc am=>Ho Jm a1 am λh an=>Bx Ad Ae an λj a=>Aq (Dw B6 c (A0 0) AK) λs=>Aq (AF Ab s a AK) λk=>Aq (An R BL [k,(A0 3)] a AK) λt=>Aq (Ap Ab .add (A0 1) t AK) λao=>Aq (Dw B6 c (A0 1) AK) λu=>Aq (AF Ab u a AK) λl=>Aq (An R BL [l,(A0 3)] a AK) λw=>Aq (Ap Ab .add (A0 1) w AK) λap=>Aq (Dw B6 c (A0 2) AK) λx=>Aq (AF Ab x a AK) λm=>Aq (An R BL [m,(A0 9)] a AK) λy=>Aq (Ap Ab .add (A0 1) y AK) λaq=>Aq (Dw B6 c (A0 3) AK) λz=>Aq (AF Ab z a AK) λn=>Aq (An R BL [n,(A0 4)] a AK) λaa=>Aq (Ap Ab .add (A0 1) aa AK) λar=>Aq (Dw B6 c (A0 4) AK) λab=>Aq (AF Ab ab a AK) λo=>Aq (An R BL [o,(A0 50)] a AK) λac=>Aq (Dw B6 c (A0 5) AK) λad=>Aq (AF Ab ad a AK) λp=>Aq (An R BL [p,(A0 30)] a AK) λae=>Aq (BZ Ae [(0,1,ao),(1,1,ap),(2,1,aq),(3,1,ar),(4,1,ac),(5,1,ae)] AK) λau=>Ef (Bx Ad Ae a λv H=>some (v,H)) λd b=>Ef (E0 Ae d au b λH=>some (AV.v undef,H)) λbt f=>QQ (Ba (AF Ab s b AK) k) (QQ (Ba (An R BL [k,(A0 3)] b AK) t) (QQ (Ba (AF Ab u b AK) l) (QQ (Ba (An R BL [l,(A0 3)] b AK) w) (QQ (Ba (AF Ab x b AK) m) (QQ (Ba (An R BL [m,(A0 9)] b AK) y) (QQ (Ba (AF Ab z b AK) n) (QQ (Ba (An R BL [n,(A0 4)] b AK) aa) (QQ (Ba (AF Ab ab b AK) o) (QQ (Ba (An R BL [o,(A0 50)] b AK) ac) (QQ (Ba (AF Ab ad b AK) p) (QQ (Ba (An R BL [p,(A0 30)] b AK) ae) (Dw B6 c (A0 3) λav=>AF Ab av f λaw=>Ap Ab .quo aw (A0 4) λax=>Dw B6 c (A0 4) λay=>AF Ab ay f λaz=>Ap Ab .quo az (A0 50) λa4=>AF B6 h f λa5=>An R QY [ax,a4,a5] f λa6=>CV 26 d λa7=>E0 Ff a7 a6 f λq=>Dw B6 c (A0 5) λa8=>AF Ab a8 q λa9=>Ap Ab .quo a9 (A0 30) λaA=>An R Gq [aA] q λaB=>CV 6 d λaC=>E0 Ay aC aB q λe=>Eh 0 d Ab e λaD=>Ap Ab .eql aD (A0 1) λaE=>Az aE (AF Ae d e λaF=>E0 Ae j aF e λaf=>AF Ae j af λaG=>K aG af) (Dw B6 h (A0 0) λaH=>AF Ab aH e λaI=>Dw B6 h (A0 1) λaJ=>AF Ab aJ e λaK=>Dw B6 h (A0 2) λaL=>AF Ab aL e λaM=>BZ R4 [(0,1,aI),(1,1,aK),(2,1,aM)] λaN=>Dw B6 c (A0 2) λaO=>AF Ab aO e λaP=>Ap Ab .quo aP (A0 9) λaQ=>An R QX [aN,aQ,a2,LW] e λaR=>CV 32 d λaS=>E0 AR aS aR e λag=>CV 32 d λaT=>Eh 3 aT Ay ag λaU=>CV 6 d λaV=>E0 Ay aV aU ag λaW=>jn (λah ai i g=>jn (λaj=>AF Ae i aj λaX=>E0 Ae ai aX aj λak=>AF Ae ai ak λaY=>K aY ak) λal=>Eh 0 i Ab g λaZ=>Ap Ab .eql aZ (A0 3) λba=>Az ba (Dw B6 ah (A0 0) λbb=>AF Ab bb g λbc=>Ap Ab .quo bc (A0 3) λbd=>An R Km [bd] g λbe=>CV 55 i λbf=>E0 DP bf be g λr=>Dw B6 ah (A0 0) λbg=>AF Ab bg r λbh=>Ap Ab .quo bh (A0 9) λbi=>An R BL [bi,(A0 3)] r λbj=>Ap Ab .add (A0 1) bj λbk=>CV 64 i λbl=>E0 Ab bl bk r λbm=>al bm) (al g)) λbn=>jn (λbo bp bq br=>bn bo bp bq br) λbs=>TB L R K bs L a3 c j d (A0 0) AV.dk AV.dk aW)))))))))))))
def VN:IX:= λL R a0 H K=>Ip 10 L R a0 H K _
def Sm:Y0N:= λL R H K=>q0N 11 L R H K _
def Vy:Ka Xl Xk:= λL R K e ih b d c a=>Bq Av b λf=>Ap Ab .lss c f λg=>Az g (Iv Av b c Ae a λh=>An R GU [h] a λi=>Hf Ar 1 Ai 1 [(0,1,i)] a λj k=>E9 Ar 1 Ai Ac d j k λl m=>Ap Ab .add c (A0 1) λn=>ih b l n m) (e d a)
def Vx:JZ Xl Xk:=Kx z3N Vy
theorem rP:Ld Vx Vy:= λ_ _ _ _ _=>rfl
def XN:IX:= λL R a0 H K=>jn (λa b=>K a b) λc=>jn (λd e=>c d e) λf=>Vx L R K f L a0 Ti (A0 0) H
def J5:IX:= λL R a0 H K=>Ip 13 L R a0 H K _
def Gf:Jq:= λL R a0 a1 H K=>Ho A7 a1 H λd e=>Rj BF CO .eql a0 (AV.v (.pointer none)) λa=>GT a e (AF A9 d e (CX e)) λi f=>GT a f (An R LU [i] f (CX f)) λj g=>GT a g (Mg .not j (CX g)) λk h=>Ch a LW k λl=>Az l (K Ti h) (L4 Aa h λb m=>Wk .i64 (A0 1) λn=>Mh b n (AV.fn (.func CD) [] []) m λo=>Wk .i64 (A0 2) λp=>Mh b p (AV.fn (.func Ds) [] []) o λq=>Wk .i64 (A0 3) λr=>Mh b r (AV.fn (.func D4) [] []) q λc=>Eh 0 d Ab c λs=>Wk .i64 s λt=>YV Aa false b t c λu=>AF A9 d c λw=>Cr (E L) R u [a0,w] c λx y=>K x y)
def oL:Jq:= λL R a0 a1 H K=>Lo 15 L R a0 a1 H K _
def Kk:IX:= λL R a0 H K=>Rj BF CO .eql a0 (AV.v (.pointer none)) λc=>Az c (K Ti H) (R.call FK [a0] H λd e=>R.call Bk [d] e λf g=>R.call BA [f] g λh a=>An R PQ [h] a λb=>Cx b 0 λi=>Cx b 1 λn=>R.call HX [a0,i] a λj k=>R.call BA [j] k λl m=>K l m)
def Zf:Jq:= λL R a0 a1 H K=>Lo 17 L R a0 a1 H K _
def IN:IX:= λL R a0 H K=>Rj BF CO .eql a0 (AV.v (.pointer none)) λc=>Az c (K Ti H) (R.call FK [a0] H λd e=>Bx Au Ah e λb f=>E0 Ah b d f λa=>Lg a0 λg=>Eh 0 g Ah a λh=>An R Cu [h] a λi=>R.call Ea [i] a λj k=>R.call Bh [j,(AV.fn (.func EV) [] [b])] k λl m=>K l m)
def XU:IX:= λL R a0 H K=>KC R CF [a0] H λa=>R.call Qg [a] H λb c=>K b c
def Kj:Jq:= λL R a0 a1 H K=>Ho Ad a1 H λc a=>Rj BF CO .eql a0 (AV.v (.pointer none)) λd=>Az d (K (A0 1) a) (AF Ae c a λe=>R.call Gu [a0,e] a λb f=>Cx b 0 λh=>Cx b 1 λg=>K g f)
def VH:Jq:= λL R a0 a1 H K=>jn (λb c=>Ap Ab .rem b a1 λd=>K d c) λa=>Ap Ab .lss a0 (A0 0) λe=>Az e (Ap Ab .add a0 (A0 1) λf=>Mg .neg f λg=>a g H) (a a0 H)
def V0:Ka (Hp->Af) Xk:= λL R K e ih c d a b=>Bq Ac c λf=>Ap Ab .lss a f λg=>Az g (Iv Ac c a Ai b λh=>Ap Ai .eql h d λi=>Az i (K (AV.tup [LW,a]) b) (Ap Ab .add a (A0 1) λj=>ih c d j b)) (e b)
def Vz:JZ (Hp->Af) Xk:=Kx z3N V0
theorem rQ:Ld Vz V0:= λ_ _ _ _ _=>rfl
def XO:Jq:= λL R a0 a1 H K=>jn (λa=>K (AV.tup [HQ,(A0 (-1))]) a) λb=>jn (λc=>b c) λd=>Vz L R K d L a0 a1 (A0 0) H
def VX:Jq:= λL R a0 a1 H K=>jn (λb c=>Ap Ab .rem b a1 λd=>K d c) λa=>Ap Ab .lss a0 (A0 0) λe=>Az e (Ap Ab .add a0 (A0 1) λf=>Mg .neg f λg=>a g H) (a a0 H)
def XV:Jq:= λL R a0 a1 H K=>Lo 24 L R a0 a1 H K _
def Pq:IX:= λL R a0 H K=>Ip 25 L R a0 H K _
def VJ:Jq:= λL R a0 a1 H K=>jn (λb c=>Ap Ab .rem b a1 λd=>K d c) λa=>Ap Ab .lss a0 (A0 0) λe=>Az e (Ap Ab .add a0 (A0 1) λf=>Mg .neg f λg=>a g H) (a a0 H)
def TL:Ka Us QL:= λL R K o ih g h a b c=>Ap Ab .lss b (A0 6) λp=>Az p (jn (λq=>Ap Ab .add b (A0 1) λr=>ih g h a r q) λs=>jn (λt=>s t) λi=>Iv B6 g b Ab c λu=>An R Jx [u,(A0 17)] c λv=>Ap Ab .sub v (A0 8) λj=>Ap Ab .neq j (A0 0) λd=>Xf d c 2 a AA λw k=>Df d k (Bq AA w (CX k)) λx l=>Df d l (Ap Ab .lss x (A0 5) (CX l)) λy e=>Ch d y HQ λz=>Az z (An R Gr [j,(A0 4)] e λm=>Cx m 0 λaa=>Cx m 1 λam=>Bx Bp A3 e λn ab=>E0 A3 n aa ab λf=>Eh 2 a AA f λac=>Ap Ab .add (A0 1) b λad=>AF A3 n f λae=>BZ BS [(0,1,ad),(1,2,ae)] λaf=>Hf AY 3 BS 1 [(0,3,af)] f λag ah=>E9 AY 3 BS AA ac ag ah λai aj=>CV 2 a λak=>E0 AA ak ai aj λal=>i al) (i e)) (o h a c)
def TK:JZ Us QL:=Kx uY TL
theorem nM:Ld TK TL:= λ_ _ _ _ _=>rfl
def VT:Y3N:= λL R a0 a1 a2 H K=>Ho Jm a2 H λi j=>Bx ED Ff j λk l=>BZ Ff [] λm=>Bx ED Ff l λa n=>E0 Ff a m n λb=>An R Jx [a0,(A0 161)] b λo=>Ap Ab .sub o (A0 80) λp=>An R Gr [p,(A0 4)] b λd=>Cx d 0 λq=>Cx d 1 λae=>CV 0 a λr=>E0 A3 r q b λc=>An R Jx [a1,(A0 9)] c λs=>An R Gr [s,(A0 4)] c λe=>Cx e 0 λt=>Cx e 1 λaf=>CV 3 a λu=>E0 A3 u t c λv=>jn (λf w g=>AF Ff w g λx=>E0 Ff f x g λh=>AF Ff f h λy=>K y h) λz=>jn (λaa ab ac=>z aa ab ac) λad=>TK L R K ad L i k a (A0 0) v
def VP:IX:= λL R a0 H K=>Ip 28 L R a0 H K _
def Mv:Ka Xk WN:= λL R K aj ih ak o u al w d am h an p ao=>Bq J2 o λap=>Ap Ab .lss p ap λi=>Xf i ao 2 d Ax λaq x=>Df i x (Bq Ax aq (CX x)) λar y=>Df i y (Ap Ab .lss ar (A0 14) (CX y)) λau q=>Ch i au HQ λav=>Az av (jn (λaw ax=>Ap Ab .add p (A0 1) λay=>ih ak o u al w d am aw an ay ax) λaz=>jn (λa0 a1=>az a0 a1) λz=>Iv J2 o p CK q λa2=>Bx HS CK q λc a3=>E0 CK c a2 a3 λj=>Eh 2 d Ax j λa4=>Bq Ax a4 λe=>Dw CK c (A0 0) λa5=>AF Ab a5 j λa6=>An R Cq [a6,(A0 8)] j λa7=>Ap Ab .add (A0 1) a7 λa8=>BZ AN [(0,1,a8)] λa9=>Bx AT AN j λb aA=>E0 AN b a9 aA λa=>jn (λk=>AF AR d k λaB=>AF AN b k λaC=>An R CC [aB,aC,e,h] k λaa=>Cx aa 0 λaD=>Cx aa 1 λaE=>Bx A6 Ay k λab aF=>E0 Ay ab aD aF λac=>Ap Ab .eql aE (A0 0) λf=>Df f ac (some (u,ac)) λaG ad=>Df f ad (Mg .not aG (CX ad)) λaH ae=>Df f ae (some (aH,ae)) λr aI=>dD r aI 0 b Ab λaJ af=>GT r af (Ap Ab .neq aJ (A0 8) (CX af)) λaK ag=>Df f ag (Ch r LW aK (CX ag)) λaL l=>Ch f aL HQ λaM=>Az aM (Eh 2 d Ax l λaN=>AF AN b l λaO=>Hf AT 26 AN 1 [(0,26,aO)] l λaP aQ=>E9 AT 26 AN Ax aN aP aQ λaR aS=>CV 2 d λaT=>E0 Ax aT aR aS λah=>AF Ay ab ah λaU=>Hf A6 20 Ay 1 [(0,20,aU)] ah λaV aW=>E9 A6 20 Ay Al h aV aW λaX aY=>z aX aY) (z h l)) λaZ=>Eh 0 b Ab a λm=>jn (λba=>aZ ba) λg=>Ap Ab .eql m (A0 1) λbb=>Az bb (Aq (Dw CK c (A0 1) AK) λbc=>Aq (AF Ab bc a AK) λbd=>Aq (An R Cq [bd,(A0 13)] a AK) λbe=>Aq (Ap Ab .sub be (A0 6) AK) λbf=>Aq (Dw CK c (A0 2) AK) λbg=>Aq (AF Ab bg a AK) λbh=>Aq (An R Cq [bh,(A0 4)] a AK) λbi=>Aq (Ap Ab .add (A0 1) bi AK) λbj=>Aq (An R Gr [bf,bj] a AK) λai=>Aq (Cx ai 0 AK) λbk=>Aq (Cx ai 1 AK) λbS=>Aq (CV 1 b AK) λbl=>Ef (E0 A3 bl bk a λH=>some (AV.v undef,H)) λbT s=>Dw CK c (A0 3) λbm=>AF Ab bm s λbn=>An R Gq [bn] s λbo=>CV 3 b λbp=>E0 Ay bp bo s λbq=>g bq) (Ap Ab .eql m (A0 2) λbr=>Az br (Dw CK c (A0 1) λbs=>AF Ab bs a λbt=>Eh 1 d Al a λbu=>Bq Al bu λbv=>An R Cq [bt,bv] a λbw=>CV 23 b λbx=>E0 Ab bx bw a λbz=>g bz) (Ap Ab .eql m (A0 7) λb0=>Az b0 (Dw CK c (A0 1) λb1=>AF Ab b1 a λb2=>An R Cq [b2,e] a λb3=>CV 24 b λb4=>E0 Ab b4 b3 a λb5=>Hf GZ 1 Ab 5 [(0,1,(A0 2)),(1,1,(A0 (-1))),(2,1,(A0 3)),(3,1,(A0 (-2))),(4,1,(A0 1))] b5 λb6 n=>Dw CK c (A0 2) λb7=>AF Ab b7 n λb8=>An R Cq [b8,(A0 5)] n λb9=>Iv B4 b6 b9 Ab n λbA=>CV 23 b λbB=>E0 Ab bB bA n λbC=>g bC) (Ap Ab .eql m (A0 8) λbD=>Az bD (Dw CK c (A0 1) λbE=>AF Ab bE a λbF=>An R Cq [bF,e] a λbG=>CV 24 b λbH=>E0 Ab bH bG a λbI=>g bI) (Dw CK c (A0 1) λbJ=>AF Ab bJ a λbK=>An R Cq [bK,e] a λbL=>CV 24 b λbM=>E0 Ab bM bL a λt=>Dw CK c (A0 2) λbN=>AF Ab bN t λbO=>An R Cq [bO,e] t λbP=>CV 25 b λbQ=>E0 Ab bQ bP t λbR=>g bR))))) (aj w d h q)
def Mu:JZ Xk WN:=Kx zU Mv
theorem Qq:Ld Mu Mv:= λ_ _ _ _ _=>rfl
def TJ:Ka F9N WN:= λL R K l ih e f g h i a j k b m c=>Eh 1 a Al c λn=>Bq Al n λo=>Ap Ab .lss b o λp=>Az p (Eh 2 a Ax c λq=>BZ AN [(0,1,(A0 2)),(23,1,b)] λr=>Hf AT 26 AN 1 [(0,26,r)] c λs t=>E9 AT 26 AN Ax q s t λu v=>CV 2 a λw=>E0 Ax w u v λd=>Eh 1 a Al d λx=>Iv Al x b Ay d λy=>Hf A6 20 Ay 1 [(0,20,y)] d λz aa=>E9 A6 20 Ay Al k z aa λab ac=>Ap Ab .add b (A0 1) λad=>ih e f g h i a j ab ad m ac) (l e f g h i a j k b c)
def TG:JZ F9N WN:=Kx zU TJ
theorem nL:Ld TG TJ:= λ_ _ _ _ _=>rfl
def TH:Ka xA WN:= λL R K m ih d f g e h b c n o i a=>An R Cq [d,(A0 3)] a λp=>Ap Ab .leq c p λq=>Az q (Aq (CV 1 b AK) λj=>Aq (AF Al j a AK) λk=>OB R4 e c Ab a λr=>Aq (An R Gq [r] a AK) λs=>Ef (Hf A6 20 Ay 1 [(0,20,s)] a λv H=>some (v,H)) λt l=>Ef (E9 A6 20 Ay Al k t l λv H=>some (v,H)) λu w=>Aq (CV 1 b AK) λx=>Ef (E0 Al x u w λH=>some (AV.v undef,H)) λaa y=>QQ (Ba (AF Al j l AK) k) (Ap Ab .add c (A0 1) λz=>ih d f g e h b z n o i y)) (m d f g e h b c i a)
def TF:JZ xA WN:=Kx zU TH
theorem nJ:Ld TF TH:= λ_ _ _ _ _=>rfl
def VQ:Y4N:= λL R a0 a1 a2 a3 H K=>Ho UA a0 H λi j=>Bx Cv AR j λk a=>An R Cq [a1,(A0 900)] a λl=>Ap Ab .add (A0 1) l λm=>BZ AR [(0,1,m)] λn=>Bx Cv AR a λb o=>E0 AR b n o λp=>jn (λq r s t u v w x y=>jn (λz aa ab ac ad ae af ag ah ai=>jn (λc d e f=>Bq Al e λaj=>Ap Ab .sub aj (A0 1) λak=>Iv Al e ak Ay f λal=>CV 3 d λam=>E0 Ay am al f λg=>AF AR d g λan=>E0 AR c an g λh=>AF AR c h λao=>K ao h) λap=>jn (λaq ar au av=>ap aq ar au av) λaw=>Mu L R K aw L z aa ab ac ad ae af ag ah (A0 0) ai) λax=>jn (λay az a4 a5 a6 a7 a8 a9 aA aB=>ax ay az a4 a5 a6 a7 a8 a9 aA aB) λaC=>TG L R K aC L q r s t u v w Ti (A0 0) x y) λaD=>jn (λaE aF aG aH aI aJ aK aL aM=>aD aE aF aG aH aI aJ aK aL aM) λaN=>TF L R K aN L a1 a2 a3 i k b (A0 0) AV.dk AV.dk AV.dk p
def Sa:IX:= λL R a0 H K=>Ip 30 L R a0 H K _
def VL:IX:= λL R a0 H K=>Bx Kc DP H λc d=>An R BL [a0,(A0 3)] d λh=>Ap Ab .add (A0 1) h λi=>BZ A3 [(0,1,(WO [45,53])),(1,1,(WO [49]))] λj=>BZ A3 [(0,1,(WO [50,53])),(1,1,(WO [50]))] λk=>BZ A3 [(0,1,(WO [48])),(1,1,(WO [49]))] λl=>BZ A3 [(0,1,(WO [49])),(1,1,(WO [50,48]))] λm=>BZ DP [(0,1,i),(1,2,j),(3,2,k),(5,2,l),(7,2,m)] λn=>Bx Kc DP d λa o=>E0 DP a n o λb=>jn (λe=>AF DP a e λp=>E0 DP c p e λf=>AF DP c f λq=>K q f) λg=>Eh 0 a Ab b λr=>Ap Ab .eql r (A0 2) λs=>Az s (BZ A3 [(0,1,(WO [49])),(1,1,(WO [50]))] λt=>CV 5 a λu=>E0 A3 u t b λv=>g v) (g b)
def QR:IX:= λL R a0 H K=>Ip 32 L R a0 H K _
def VD:Ka Xl dT:= λL R K e ih c f g d a b=>Ap Ab .lss a (A0 8) λh=>Az h (OB AD c a Ak b λi=>Aq (Ap Ak .shr i (AV.v (.int .u64 24)) AK) λj=>Aq (Jc Ak Bi j AK) λk=>OB AD c a Ak b λl=>Aq (Ap Ak .shr l (AV.v (.int .u64 16)) AK) λm=>Aq (Jc Ak Bi m AK) λn=>OB AD c a Ak b λo=>Aq (Ap Ak .shr o (AV.v (.int .u64 8)) AK) λp=>Aq (Jc Ak Bi p AK) λq=>OB AD c a Ak b λr=>Aq (Jc Ak Bi r AK) λs=>Ef (Hf Bt 1 Bi 4 [(0,1,k),(1,1,n),(2,1,q),(3,1,s)] b λv H=>some (v,H)) λt u=>Ef (E9 Bt 1 Bi AU d t u λv H=>some (v,H)) λw x=>Ap Ab .add a (A0 1) λy=>ih c f g w y x) (e d b)
def VB:JZ Xl dT:=Kx z5N VD
theorem rS:Ld VB VD:= λ_ _ _ _ _=>rfl
def VC:Ka Xk dT:= λL R K e ih d b a f g c=>Bq AU b λh=>Ap Ab .lss a h λi=>Az i (Ap Ab .add a (A0 64) λj=>Ee AU b (some a) (some j) none λk=>An R Uh [d,k] c λl=>Ap Ab .add a (A0 64) λm=>ih l b m f g c) (e d b a c)
def VA:JZ Xk dT:=Kx z5N VC
theorem rR:Ld VA VC:= λ_ _ _ _ _=>rfl
def XS:IX:= λL R a0 H K=>Hf Cg 1 Ak 8 [(0,1,(AV.v (.int .u32 1779033703))),(1,1,(AV.v (.int .u32 3144134277))),(2,1,(AV.v (.int .u32 1013904242))),(3,1,(AV.v (.int .u32 2773480762))),(4,1,(AV.v (.int .u32 1359893119))),(5,1,(AV.v (.int .u32 2600822924))),(6,1,(AV.v (.int .u32 528734635))),(7,1,(AV.v (.int .u32 1541459225)))] H λc a=>An R PD [a0] a λd=>jn (λe f g h=>jn (λi b=>wY i b λj=>K j b) λk=>jn (λl m=>k l m) λn=>VB L R K n L e f g Ti (A0 0) h) λo=>jn (λp q r s=>o p q r s) λt=>VA L R K t L c d (A0 0) AV.dk AV.dk a
def ER:Operand×Array Tmp×Code×Code:=XA8 (S') 0
def S0:Ka xA F9N:= λL R K j ih d e c f a k g h i l=>Yp a l λm b=>Cx m 0 λn=>Az n (Zv a b λo=>Cx o 0 λp=>AF CA c b λq=>BZ F4 [] λr=>LQ p λs=>Mh q s r b λt=>ih d e c f a k g h i t) (j d e c f a g h i b)
def Sz:JZ xA F9N:=Kx z9N S0
theorem lE:Ld Sz S0:= λ_ _ _ _ _=>rfl
def Ua:IX:= λL R a0 H K=>An R L0 [a0] H λc=>Cx c 0 λd=>Cx c 1 λaq=>L4 F4 H λl m=>Bx CL CA m λe n=>E0 CA e l n λo=>jn (λf g a p q r s t h=>jn (λu i=>AF CA u i λv=>R.call Ko [v] i λw x=>K w x) λy=>An R Fj [g] h λj=>jn (λz aa=>y z aa) λk=>mV R 32 j [(2,f),(3,g),(5,a),(8,p),(16,q),(25,j),(27,r),(28,s),(29,t)] (ER).2.1 (ER).2.2.1 (ER).2.2.2 h λab b=>mI ab (k a b) (K f b) (λac=>@Bool.rec (λ_=>Af) (none) (k a b) (Nat.beq ac 2)) (λ_=>none)) λad=>Wz d o λae af=>jn (λag ah ai aj ak al am an ao=>ad ag ah ai aj ak al am an ao) λap=>Sz L R K ap L Ti d e AV.dk ae AV.dk AV.dk AV.dk AV.dk af
theorem jZ (L:Nat) (R:Rt) (c2:AV) (c3:AV) (c5:AV) (c8:AV) (c16:AV) (c25:AV) (c27:AV) (c28:AV) (c29:AV) (a0:AV) (a1:AV) (P:Hp->(Hp->Af)->Af) (Q:Exit->Hp->Af) (H:Hp):rdK (λcf=>OG (E L) R cf) 32 [(2,c2),(3,c3),(5,c5),(8,c8),(16,c16),(25,c25),(27,c27),(28,c28),(29,c29)] (ER).2.1 [a0,a1] (ER).2.2.1 (ER).2.2.2 H P Q=P H λa=>AF CA c5 a λb=>LQ a1 λc=>hC b c a λd=>Q .normal d:=by kernel_rfl
def Po:IX:= λL R a0 H K=>Ip 35 L R a0 H K _
def J3:Jq:= λL R a0 a1 H K=>Ho A7 a1 H λc a=>Eh 1 c Ac a λd=>R.call Bg [d] a λe f=>R.call Bh [e,(AV.fn (.func BM) [a0] [])] f λg b=>An R HW [a0,g] b λh=>K h b
def Jh:Jq:= λL R a0 a1 H K=>Ho AS a0 H λb f=>Ho A7 a1 f λg c=>Eh 1 g Ac c λh=>R.call Bg [h] c λi j=>R.call Bh [i,(AV.fn (.func Fg) [] [b])] j λd k=>R.call AH [d] k λw l=>R.call Cm [d] l λe a=>Bq Ac e λm=>Ap Ab .eql m (A0 0) λn=>Az n (K Ti a) (AF BF b a λo=>R.call HX [o,e] a λp q=>R.call BA [p] q λr s=>BZ A9 [(0,1,(A0 3)),(2,1,r)] λt=>Hf A7 3 A9 1 [(0,3,t)] s λu v=>K u v)
def Je:Ka Us dT:= λL R K k ih a b e f c d=>Ap Ab .lss c f λl=>Az l (Iv Av e c Ae d λm=>Bx Ad Ae d λg n=>E0 Ae g m n λh=>AF Ae g h λo=>R.call Gu [a,o] h λi j=>Cx i 0 λp=>Cx i 1 λu=>GT b j (some (p,j)) λq r=>Ch b LW q λs=>Ap Ab .add c (A0 1) λt=>ih a s e f t r) (k a b d)
def Jd:JZ Us dT:=Kx z5N Je
theorem QP:Ld Jd Je:= λ_ _ _ _ _=>rfl
def J4:Jq:= λL R a0 a1 H K=>Ho A7 a1 H λd b=>jn (λe f a=>Mg .not f λg=>Az g (K Ti a) (An R HW [e,Ti] a λh=>K h a)) λi=>Eh 2 d Av b λc=>Bq Av c λj=>jn (λk l m=>i k l m) λn=>Jd L R K n L a0 HQ c j (A0 0) b
def OK:Jq:= λL R a0 a1 H K=>Lo 39 L R a0 a1 H K _
def D8:Ka (Hp->Af) dT:= λL R K l ih d e f g a b=>Ap Ab .lss a g λm=>Az m (Iv Av f a Ae b λn=>Bx Ad Ae b λh o=>E0 Ae h n o λi=>Iv Av d a Ae i λp=>Bx Ad Ae i λj q=>E0 Ae j p q λc=>AF Ae h c λr=>AF Ae j c λs=>Cr (E L) R e [r,s] c λt k=>Mg .not t λu=>Az u (K HQ k) (Ap Ab .add a (A0 1) λv=>ih d e f g v k)) (l b)
def D7:JZ (Hp->Af) dT:=Kx z5N D8
def DA:Y3N:= λL R a0 a1 a2 H K=>Bq Av a0 λa=>Bq Av a1 λb=>Ap Ab .neq a b λc=>Az c (K HQ H) (jn (λd=>K LW d) λe=>Bq Av a0 λf=>jn (λg=>e g) λh=>D7 L R K h L a1 a2 a0 f (A0 0) H)
def ZW:Jq:= λL R a0 a1 H K=>Ho Ad a0 H λb a4=>Ho Ad a1 a4 λa j=>Aq (AF Ae b j AK) λa5=>Ef (Cr (E L) R (AV.fn (.func Ox) [] []) [a5] j λv H=>some (v,H)) λa6 ae=>Aq (AF Ae a ae AK) λaf=>Ef (Cr (E L) R (AV.fn (.func Ox) [] []) [af] ae λv H=>some (v,H)) λa7 ag=>Aq (Xg tV .eql a6 a7 AK) λe=>Df e ag (Aq (CV 6 b AK) (CX ag)) λa8 k=>Df e k (Aq (AF Ay a8 k AK) (CX k)) λa9 ah=>Df e ah (Aq (CV 6 a AK) (CX ah)) λaA l=>Df e l (Aq (AF Ay aA l AK) (CX l)) λaB ai=>Df e ai (Aq (Xg L2 .eql a9 aB AK) (CX ai)) λaC aj=>Aq (Ch e aC HQ AK) λf=>Df f aj (Aq (CV 55 b AK) (CX aj)) λaD m=>Df f m (Aq (AF DP aD m AK) (CX m)) λaE ak=>Df f ak (Aq (CV 55 a AK) (CX ak)) λaF n=>Df f n (Aq (AF DP aF n AK) (CX n)) λaG al=>Df f al (Aq (Xg J0 .eql aE aG AK) (CX al)) λaH am=>Aq (Ch f aH HQ AK) λg=>Df g am (Aq (CV 26 b AK) (CX am)) λaI o=>Df g o (Aq (AF Ff aI o AK) (CX o)) λaJ an=>Df g an (Aq (CV 26 a AK) (CX an)) λaK p=>Df g p (Aq (AF Ff aK p AK) (CX p)) λaL q=>Df g q (Aq (An R wV [aJ,aL] q AK) (CX q)) λaM ao=>Aq (Ch g aM HQ AK) λh=>Df h ao (Aq (CV 32 b AK) (CX ao)) λaN r=>Df h r (Aq (AF AR aN r AK) (CX r)) λaO ap=>Df h ap (Aq (CV 32 a AK) (CX ap)) λaP s=>Df h s (Aq (AF AR aP s AK) (CX s)) λaQ t=>Df h t (Aq (An R PF [aO,aQ] t AK) (CX t)) λaR aq=>Aq (Ch h aR HQ AK) λi=>Df i aq (Aq (CV 31 b AK) (CX aq)) λaS u=>Df i u (Aq (AF Ac aS u AK) (CX u)) λaT ar=>Df i ar (Aq (CV 31 a AK) (CX ar)) λaU w=>Df i w (Aq (AF Ac aU w AK) (CX w)) λaV x=>Df i x (Aq (An R HK [aT,aV] x AK) (CX x)) λaW au=>Aq (Ch i aW HQ AK) λc=>Df c au (Aq (CV 65 b AK) (CX au)) λaX av=>Df c av (Aq (CV 1 aX AK) (CX av)) λaY y=>Df c y (Aq (AF Ac aY y AK) (CX y)) λaZ aw=>Df c aw (Aq (CV 65 a AK) (CX aw)) λba ax=>Df c ax (Aq (CV 1 ba AK) (CX ax)) λbb z=>Df c z (Aq (AF Ac bb z AK) (CX z)) λbc aa=>Df c aa (Aq (An R HK [aZ,bc] aa AK) (CX aa)) λbd ay=>Aq (Ch c bd HQ AK) λd=>Df d ay (Aq (CV 65 b AK) (CX ay)) λbe az=>Df d az (Aq (CV 2 be AK) (CX az)) λbf ab=>Df d ab (Aq (AF Ac bf ab AK) (CX ab)) λbg a2=>Df d a2 (Aq (CV 65 a AK) (CX a2)) λbh a3=>Df d a3 (Aq (CV 2 bh AK) (CX a3)) λbi ac=>Df d ac (Aq (AF Ac bi ac AK) (CX ac)) λbj ad=>Df d ad (Aq (An R HK [bg,bj] ad AK) (CX ad)) λbk bl=>Aq (Ch d bk HQ AK) λbm=>QQ (Ba (AF Ae a j AK) af) (K bm bl)
def XA0:Operand×Array Tmp×Code×Code:=XA8 (c42) 0
def Sy:Ka A4n A4n:= λL R K aj ih i j k b l m n f o p q r s t u v w x y z aa ab ac ad ae af ag g h c a=>Ap Ab .lss c h λak=>Az ak (jn (λal am=>Ap Ab .add c (A0 1) λan=>ih i j k b l m n al o p q r s t u v w x y z aa ab ac ad ae af ag g h an am) λao=>jn (λap aq=>ao ap aq) λah=>Iv Ac g c Ai a λd=>AF DK b a λai=>LQ d λar=>YV Ab false ai ar a λau=>Ap Ab .sub au (A0 1) λav=>LQ d λaw=>Mh ai aw av a λe=>AF DK b e λax=>LQ d λay=>YV Ab false ax ay e λaz=>Ap Ab .eql az (A0 0) λa0=>Az a0 (Hf Ar 1 Ai 1 [(0,1,d)] e λa1 a2=>E9 Ar 1 Ai Ac f a1 a2 λa3 a4=>ah a3 a4) (ah f e)) (aj i j k b l m n f o p q r s t u v w x y z aa ab ac ad ae af ag g h c a)
def Sw:JZ A4n A4n:=Kx C0F Sy
theorem lD:Ld Sw Sy:= λ_ _ _ _ _=>rfl
def Oe:Ka Us A4n:= λL R K j ih k l e m f n o c g p q r s t u v w x y z aa ab ac ad ae af ag b0 b1 b2 d=>Bq Ac c λah=>Ap Ab .gtr ah (A0 0) λai=>Az ai (jn (λaj ak al am an ao ap aq ar au av aw ax ay az a0 a1 a2 a3 a4 a5 a6 a7 a8 a9 aA aB aC aD aE aF=>ih aj ak al am an ao ap aq ar au av aw ax ay az a0 a1 a2 a3 a4 a5 a6 a7 a8 a9 aA aB aC aD aE aF) λaG=>An R HJ [c] d λaH=>Bx Ar Ai d λa aI=>E0 Ai a aH aI λaJ=>R.call Bh [c,(AV.fn (.func Jy) [] [a])] aJ λaK h=>AF Ai a h λaL=>Hf Ar 1 Ai 1 [(0,1,aL)] h λaM aN=>E9 Ar 1 Ai Ac g aM aN λaO b=>AF BD f b λaP=>AF Ai a b λaQ=>LQ aQ λaR=>YV Ac false aP aR b λi=>Bq Ac i λaS=>jn (λaT aU aV aW aX aY aZ ba bb bc bd be bf bg bh bi bj bk bl bm bn bo bp bq br bs bt bu bv bw bx=>aG aT aU aV aW aX aY aZ ba bb bc bd be bf bg bh bi bj bk bl bm bn bo bp bq br bs bt bu bv bw bx) λbz=>Sw L R K bz L k l e m f n o aK aO p q r s t u v w x y z aa ab ac ad ae af ag i aS (A0 0) b) (j e g d)
def Sx:JZ Us A4n:=Kx C0F Oe
theorem UW:Ld Sx Oe:= λ_ _ _ _ _=>rfl
def TZ:IX:= λL R a0 H K=>An R L0 [a0] H λh=>Cx h 0 λo=>Cx h 1 λp=>Bx C9 Ah H λa q=>E0 Ah a o q λi=>Mg .not p λr=>Az r (K (AV.tup [Ti,(A0 220)]) i) (L4 Ab i λs t=>Bx ID DK t λb u=>E0 DK b s u λv=>L4 Ac v λw x=>Bx EN BD x λc y=>E0 BD c w y λf=>jn (λz aa j k ab ac ad ae af ag ah ai aj ak al am an ao ap aq ar au av aw ax ay az a1 l=>AF Ah j l λa2=>R.call Mf [a2] l λa3 a4=>R.call Bh [a3,(AV.fn (.func KZ) [] [k])] a4 λa5 a6=>jn (λa7 m d=>Bq Ac m λa8=>AF Ah a7 d λa9=>Yq a9 d λaA=>Ap Ab .lss a8 aA λaB=>Az aB (K (AV.tup [Ti,(A0 220)]) d) (K (AV.tup [m,(A0 0)]) d)) λaC=>jn (λaD aE aF=>aC aD aE aF) λaG=>Sx L R K aG L z aa j k ab ac ad a5 Ti ae af ag ah ai aj ak al am an ao ap aq ar au av aw ax ay az a1 a6) λaH=>AF Ah a f λaI=>An R Fj [aI] f λe=>jn (λaJ aK aL aM aN aO aP aQ aR aS aT aU aV aW aX aY aZ ba bb bc bd be bf bg bh bi bj bk bl=>aH aJ aK aL aM aN aO aP aQ aR aS aT aU aV aW aX aY aZ ba bb bc bd be bf bg bh bi bj bk bl) λn=>mV R 86 e [(2,Ti),(3,(A0 0)),(4,a),(6,b),(7,c),(8,AV.dk),(9,AV.dk),(10,AV.dk),(11,AV.dk),(25,e),(26,AV.dk),(27,AV.dk),(28,AV.dk),(29,AV.dk),(30,AV.dk),(31,AV.dk),(32,AV.dk),(33,AV.dk),(34,AV.dk),(35,AV.dk),(36,AV.dk),(37,AV.dk),(38,AV.dk),(39,AV.dk),(40,AV.dk),(41,AV.dk),(42,AV.dk),(61,AV.dk),(62,AV.dk),(63,AV.dk)] (XA0).2.1 (XA0).2.2.1 (XA0).2.2.2 f λbm g=>mI bm (n Ti (A0 0) a b c AV.dk AV.dk e AV.dk AV.dk AV.dk AV.dk AV.dk AV.dk AV.dk AV.dk AV.dk AV.dk AV.dk AV.dk AV.dk AV.dk AV.dk AV.dk AV.dk AV.dk AV.dk AV.dk g) (K (AV.tup [Ti,(A0 0)]) g) (λbn=>@Bool.rec (λ_=>Af) (none) (n Ti (A0 0) a b c AV.dk AV.dk e AV.dk AV.dk AV.dk AV.dk AV.dk AV.dk AV.dk AV.dk AV.dk AV.dk AV.dk AV.dk AV.dk AV.dk AV.dk AV.dk AV.dk AV.dk AV.dk AV.dk g) (Nat.beq bn 0)) (λ_=>none))
theorem jY (L:Nat) (R:Rt) (c2:AV) (c3:AV) (c4:AV) (c6:AV) (c7:AV) (c8:AV) (c9:AV) (c10:AV) (c11:AV) (c25:AV) (c26:AV) (c27:AV) (c28:AV) (c29:AV) (c30:AV) (c31:AV) (c32:AV) (c33:AV) (S':AV) (Z':AV) (Y_:AV) (c37:AV) (c38:AV) (c39:AV) (c40:AV) (c41:AV) (c42:AV) (c61:AV) (c62:AV) (c63:AV) (a0:AV) (a1:AV) (P:Hp->(Hp->Af)->Af) (Q:Exit->Hp->Af) (H:Hp):rdK (λcf=>OG (E L) R cf) 86 [(2,c2),(3,c3),(4,c4),(6,c6),(7,c7),(8,c8),(9,c9),(10,c10),(11,c11),(25,c25),(26,c26),(27,c27),(28,c28),(29,c29),(30,c30),(31,c31),(32,c32),(33,c33),(34,S'),(35,Z'),(36,Y_),(37,c37),(38,c38),(39,c39),(40,c40),(41,c41),(42,c42),(61,c61),(62,c62),(63,c63)] (XA0).2.1 [a0,a1] (XA0).2.2.1 (XA0).2.2.2 H P Q=P H λa=>jn (λj=>Q .normal j) λf=>AF Ah c4 a λk=>An R Fi [k,a1] a λl=>Az l (AF DK c6 a λg=>LQ a0 λm=>YV Ab false g m a λn=>Ap Ab .add n (A0 1) λo=>LQ a0 λp=>Mh g p o a λb=>Aq (AF BD c7 b AK) λd=>Aq (AF BD c7 b AK) λe=>Aq (LQ a1 λq=>YV Ac false e q b AK) λh=>Ef (Hf Ar 1 Ai 1 [(0,1,a0)] b λv H=>some (v,H)) λr c=>Ef (E9 Ar 1 Ai Ac h r c λv H=>some (v,H)) λs i=>Ef (LQ a1 λt=>Mh d t s i λH=>some (AV.v undef,H)) λx u=>QQ (Ba (AF BD c7 c AK) d) (QQ (Ba (AF BD c7 i AK) d) (QQ (Ba (AF BD c7 c AK) e) (QQ (Ba (LQ a1 λw=>YV Ac false e w c AK) h) (f u))))) (f a):=by kernel_rfl
def Gb:IX:= λL R a0 H K=>R.call Er [Ti,a0] H λa b=>K a b
def B8:IX:= λL R a0 H K=>Ip 44 L R a0 H K _
def XA3:Ka QL QL:= λL R K j ih f b g c k=>Yp c k λl d=>Cx l 0 λm=>Az m (jn (λn=>ih f b g c n) λh=>Zv c d λi=>Cx i 0 λo=>Cx i 1 λp=>Bx Ad Ae d λe q=>E0 Ae e p q λa=>Eh 31 e Ac a λr=>An R B0 [r,(AV.fn (.func Db) [] [b])] a λs=>Mg .not s λt=>Az t (AF Ah b a λu=>AF Ae e a λv=>LQ o λw=>Mh u w v a λx=>h x) (h a)) (j f b g c d)
def Ic:JZ QL QL:=Kx uY XA3
theorem Pf:Ld Ic XA3:= λ_ _ _ _ _=>rfl
def Ie (L:Nat) (R:Rt) (K:KV) (ih:QL):QL:= λd e z aa b=>AF Ah e b λg=>Yq g b λh=>jn (λi c f j a=>AF Ah c a λk=>Yq k a λl=>Ap Ab .eql l f λm=>Az m (AF Ah c a λn=>K n a) (ih i c f j a)) λo=>Lg d λp=>Eh 0 p Ah b λq=>Wz q b λr s=>jn (λt u v w x=>o t u v w x) λy=>Ic L R K y L d e h r s
def F6 (L:Nat) (R:Rt) (K:KV) (n:Nat):QL:=lpN uY (Ie L R K) n
theorem Pg (L:Nat) (R:Rt) (K:KV) (n:Nat):F6 L R K (n+1)=Ie L R K (F6 L R K n):=rfl
def I2:IX:= λL R a0 H K=>L4 Ae H λb c=>Bx Au Ah c λa d=>E0 Ah a b d λe=>F6 L R K L a0 a AV.dk AV.dk e
def JP:Jq:= λL R a0 a1 H K=>Lo 46 L R a0 a1 H K _
def EP:Ka Us QL:= λL R K i ih a e b c d=>Bq Ac a λj=>Ap Ab .lss c j λk=>Az k (jn (λl m=>Ap Ab .add c (A0 1) λn=>ih a e l n m) λo=>jn (λp q=>o p q) λf=>Iv Ac a c Ai d λg=>Cr (E L) R e [g] d λr h=>Mg .not r λs=>Az s (Dw Ac a b λt=>E0 Ai t g h λu=>Ap Ab .add b (A0 1) λv=>f v u) (f b h)) (i a b d)
def EO:JZ Us QL:=Kx uY EP
theorem Lf:Ld EO EP:= λ_ _ _ _ _=>rfl
def Fc:Jq:= λL R a0 a1 H K=>An R DM [a0,a1] H λa=>Ap Ab .eql a (A0 (-1)) λd=>Az d (K a0 H) (jn (λb c e=>Ee Ac b (some c) none none λf=>uA 1 Ai f e λg=>Ee Ac b none (some c) none λh=>K h g) λi=>Ap Ab .add a (A0 1) λj=>jn (λk l m=>i k l m) λn=>EO L R K n L a0 a1 a j H)
def ET:IX:= λL R a0 H K=>R.call EC [a0] H λa b=>R.call AH [a] b λd c=>K a c
def Ct:IX:= λL R a0 H K=>Ip 49 L R a0 H K _
def GR:Jq:= λL R a0 a1 H K=>Lo 50 L R a0 a1 H K _
def Ki:Jq:= λL R a0 a1 H K=>Lo 51 L R a0 a1 H K _
def Mj:Ka Us dT:= λL R K j ih e a f g b c=>Ap Ab .lss b g λk=>Az k (Iv AA f b BS c λl=>Bx AY BS c λd m=>E0 BS d l m λh=>Eh 0 d Ab h λn=>Hf GZ 1 Ab 1 [(0,1,n)] h λo p=>R.call BN [a,o] p λv i=>Eh 1 d A3 i λq=>Hf Bp 2 A3 1 [(0,2,q)] i λr s=>R.call CN [a,r] s λw t=>Ap Ab .add b (A0 1) λu=>ih e a f g u t) (j e a c)
def Mi:JZ Us dT:=Kx z5N Mj
theorem Xj:Ld Mi Mj:= λ_ _ _ _ _=>rfl
def MX:IX:= λL R a0 H K=>Ho Ad a0 H λa e=>AF Ae a e λab=>An R Ec [ab] e λac=>Mg .not ac λad=>Az ad (K (AV.tup [(WO []),(A0 210)]) e) (Eh 65 a PX e λae=>An R ZA [ae] e λm=>Cx m 0 λbt=>Cx m 1 λaf=>Ap Ab .neq af (A0 0) λh=>Xf h e 65 a PX λag j=>Df h j (An R Qh [ag] j (CX j)) λah n=>Df h n (Mg .not ah (CX n)) λai o=>Ch h ai HQ λaj=>Az aj (K (AV.tup [(WO []),(A0 210)]) o) (Bx Hr KD o λf d=>Eh 0 a Ab d λak=>Eh 1 a Ab d λal=>Eh 2 a Ab d λam=>Eh 3 a Ab d λan=>Eh 4 a Ab d λao=>Eh 5 a Ab d λap=>Hf GZ 1 Ab 6 [(0,1,ak),(1,1,al),(2,1,am),(3,1,an),(4,1,ao),(5,1,ap)] d λaq ar=>R.call BN [f,aq] ar λbu k=>Eh 6 a Ay k λau=>An R Ju [au] k λp=>Cx p 0 λav=>Cx p 1 λbv=>Hf Ar 1 Ai 1 [(0,1,av)] k λaw ax=>R.call Cw [f,aw] ax λbw q=>CV 26 a λay=>Eh 0 ay A3 q λaz=>Hf Bp 2 A3 1 [(0,2,az)] q λa1 a2=>R.call CN [f,a1] a2 λbx r=>CV 26 a λa3=>Eh 2 a3 AA r λa4=>Bq AA a4 λa5=>Hf GZ 1 Ab 1 [(0,1,a5)] r λa6 a7=>R.call BN [f,a6] a7 λbz s=>jn (λb c t=>CV 26 b λa8=>Eh 3 a8 A3 t λa9=>Hf Bp 2 A3 1 [(0,2,a9)] t λaA aB=>R.call CN [c,aA] aB λb0 u=>Eh 31 b Ac u λaC=>Bq Ac aC λaD=>Hf GZ 1 Ab 1 [(0,1,aD)] u λaE aF=>R.call BN [c,aE] aF λb1 v=>Eh 31 b Ac v λaG=>R.call Cw [c,aG] v λb2 l=>Eh 32 b AR l λaH=>An R Gt [aH] l λw=>Cx w 0 λaI=>Cx w 1 λb3=>Hf Ar 1 Ai 1 [(0,1,aI)] l λaJ aK=>R.call Cw [c,aJ] aK λb4 i=>jn (λaL=>CV 0 c λaM=>R.call HV [aM] aL λaN x=>Ap Ab .gtr aN (A0 32768) λaO=>Az aO (K (AV.tup [(WO []),(A0 210)]) x) (CV 0 c λaP=>R.call EH [aP] x λaQ aR=>K (AV.tup [aQ,(A0 0)]) aR)) λy=>Eh 0 b Ab i λaS=>Ap Ab .eql aS (A0 3) λaT=>Az aT (CV 55 b λaU=>Eh 0 aU Ab i λaV=>Hf GZ 1 Ab 1 [(0,1,aV)] i λaW aX=>R.call BN [c,aW] aX λb5 g=>CV 55 b λaY=>Eh 1 aY A3 g λaZ=>CV 55 b λba=>Eh 3 ba A3 g λbb=>CV 55 b λbc=>Eh 5 bc A3 g λbd=>CV 55 b λbe=>Eh 7 be A3 g λbf=>Hf Bp 2 A3 4 [(0,2,aZ),(2,2,bb),(4,2,bd),(6,2,bf)] g λbg bh=>R.call CN [c,bg] bh λb6 z=>Eh 64 b Ab z λbi=>Hf GZ 1 Ab 1 [(0,1,bi)] z λbj bk=>R.call BN [c,bj] bk λb7 bl=>y bl) (y i)) λbm=>CV 26 a λbn=>Eh 2 bn AA s λaa=>Bq AA aa λbo=>jn (λbp bq br=>bm bp bq br) λbs=>Mi L R K bs L a f aa bo (A0 0) s))
def F5:Operand×Array Tmp×Code×Code:=XA8 (c53) 0
def Uo:Ka xA F9N:= λL R K j ih b c d e a f k g h i=>Ap Ab .geq a (A0 0) λl=>Az l (Bq Ai b λm=>Ap Ab .mul (A0 8) m λn=>Ap Ab .mul (A0 8) a λo=>Ap Ab .shr n o λp=>Jc Ab Bi p λq=>Hf Bt 1 Bi 1 [(0,1,q)] i λr s=>E9 Bt 1 Bi AU e r s λt u=>Ap Ab .sub a (A0 1) λv=>ih b c d t v f k g h u) (j b c d e a f g h i)
def PR:JZ xA F9N:=Kx z9N Uo
theorem oV:Ld PR Uo:= λ_ _ _ _ _=>rfl
def Un:Ka xA F9N:= λL R K j ih b c d a k e f g h i=>Bq AU a λl=>Ap Ab .rem l (A0 64) λm=>Ap Ab .neq m (A0 56) λn=>Az n (Hf Bt 1 Bi 1 [(0,1,(AV.v (.int .u8 0)))] i λo p=>E9 Bt 1 Bi AU a o p λq r=>ih b c d q k e f g h r) (j b c d a e f g h i)
def Um:JZ xA F9N:=Kx z9N Un
theorem oU:Ld Um Un:= λ_ _ _ _ _=>rfl
def Wa:IX:= λL R a0 H K=>BZ AO [(0,1,(AV.v (.int .u32 1779033703))),(1,1,(AV.v (.int .u32 3144134277))),(2,1,(AV.v (.int .u32 1013904242))),(3,1,(AV.v (.int .u32 2773480762))),(4,1,(AV.v (.int .u32 1359893119))),(5,1,(AV.v (.int .u32 2600822924))),(6,1,(AV.v (.int .u32 528734635))),(7,1,(AV.v (.int .u32 1541459225)))] λi=>Bx BH AO H λd j=>E0 AO d i j λk=>A1y Bt a0 k λl m=>Hf Bt 1 Bi 1 [(0,1,(AV.v (.int .u8 128)))] m λn o=>E9 Bt 1 Bi AU l n o λp q=>jn (λr s t u w x y z aa=>jn (λab e a f ac ad ae af ag=>jn (λah b=>AF AO ah b λai=>An R GK [ai] b λaj=>K aj b) λak=>R.call KY [f,(A0 64)] ag λg al=>jn (λam an=>ak am an) λh=>mV R 40 g [(0,ab),(2,e),(3,a),(4,f),(5,ac),(6,ad),(34,g),(35,ae),(36,af)] (F5).2.1 (F5).2.2.1 (F5).2.2.2 al λao c=>mI ao (h a c) (K e c) (λap=>@Bool.rec (λ_=>Af) (none) (h a c) (Nat.beq ap 4)) (λ_=>none)) λaq=>jn (λar au av aw ax ay az a1 a2=>aq ar au av aw ax ay az a1 a2) λa3=>PR L R K a3 L r s t u (A0 7) w x y z aa) λa4=>jn (λa5 a6 a7 a8 a9 aA aB aC aD=>a4 a5 a6 a7 a8 a9 aA aB aC aD) λaE=>Um L R K aE L a0 (WO []) d p AV.dk AV.dk AV.dk AV.dk AV.dk q
theorem nN (L:Nat) (R:Rt) (c0:AV) (c2:AV) (c3:AV) (c4:AV) (c5:AV) (c6:AV) (S':AV) (Z':AV) (Y_:AV) (a0:AV) (P:Hp->(Hp->Af)->Af) (Q:Exit->Hp->Af) (H:Hp):rdK (λcf=>OG (E L) R cf) 40 [(0,c0),(2,c2),(3,c3),(4,c4),(5,c5),(6,c6),(34,S'),(35,Z'),(36,Y_)] (F5).2.1 [a0] (F5).2.2.1 (F5).2.2.2 H P Q=P H λa=>R.call Lz [c3,a0] a λc b=>Q .normal b:=by kernel_rfl
def A3g:Jq:= λL R a0 a1 H K=>Lo 54 L R a0 a1 H K _
def VS:Jq:= λL R a0 a1 H K=>jn (λb c=>Ap Ab .rem b a1 λd=>K d c) λa=>Ap Ab .lss a0 (A0 0) λe=>Az e (Ap Ab .add a0 (A0 1) λf=>Mg .neg f λg=>a g H) (a a0 H)
def VO:Jq:= λL R a0 a1 H K=>jn (λb c=>Ap Ab .rem b a1 λd=>K d c) λa=>Ap Ab .lss a0 (A0 0) λe=>Az e (Ap Ab .add a0 (A0 1) λf=>Mg .neg f λg=>a g H) (a a0 H)
def Hi:Y4N:= λL R a0 a1 a2 a3 H K=>q4N 60 L R a0 a1 a2 a3 H K _
def Pd:Ka Xl Xk:= λL R K f ih b d c a=>Bq B4 b λg=>Ap Ab .lss c g λh=>Az h (Iv B4 b c Ab a λi=>An R SF [i] a λe=>Cx e 0 λj=>Cx e 1 λm=>Ap Ai .add d j λk=>Ap Ab .add c (A0 1) λl=>ih b k l a) (f d a)
def Pc:JZ Xl Xk:=Kx z3N Pd
theorem ZO:Ld Pc Pd:= λ_ _ _ _ _=>rfl
def Qs:IX:= λL R a0 H K=>jn (λa b=>K a b) λc=>jn (λd e=>c d e) λf=>Pc L R K f L a0 (WO []) (A0 0) H
def IL:IX:= λL R a0 H K=>Ip 62 L R a0 H K _
def T9:Ka Us Xk:= λL R K g ih c f d a=>CV 26 c λh=>Eh 2 h AA a λi=>Bq AA i λj=>Ap Ab .lss d j λk=>Az k (CV 26 c λl=>Eh 2 l AA a λm=>Iv AA m d BS a λn=>Bx AY BS a λe o=>E0 BS e n o λb=>WY 0 e Ab b λp=>Aq (Yr 1 Ab 1 [(0,1,p)] AK) λq=>Aq (An R EL [q] b AK) λr=>Aq (Ap Ai .add f r AK) λs=>WY 1 e A3 b λt=>Aq (An R Fu [t] b AK) λu=>Aq (Ap Ai .add s u AK) λv=>Ap Ab .add d (A0 1) λw=>ih c v w b) (g c f a)
def T8:JZ Us Xk:=Kx z3N T9
theorem mZ:Ld T8 T9:= λ_ _ _ _ _=>rfl
def VK:IX:= λL R a0 H K=>Ho Ad a0 H λd a=>Eh 6 d Ay a λk=>An R JD [k] a λg=>Cx g 0 λl=>Cx g 1 λaW=>WY 0 d Ab a λm=>WY 1 d Ab a λn=>WY 2 d Ab a λo=>WY 3 d Ab a λp=>WY 4 d Ab a λq=>WY 5 d Ab a λr=>Aq (Yr 1 Ab 6 [(0,1,m),(1,1,n),(2,1,o),(3,1,p),(4,1,q),(5,1,r)] AK) λs=>Aq (An R EL [s] a AK) λt=>Aq (Yr 1 Ai 1 [(0,1,l)] AK) λu=>Aq (An R Hj [u] a AK) λv=>Aq (Ap Ai .add t v AK) λw=>Aq (CV 26 d AK) λx=>WY 0 x A3 a λy=>Aq (An R Fu [y] a AK) λz=>Aq (Ap Ai .add w z AK) λaa=>Aq (CV 26 d AK) λab=>WY 2 ab AA a λac=>Aq (Bq AA ac AK) λad=>Aq (Yr 1 Ab 1 [(0,1,ad)] AK) λae=>Aq (An R EL [ae] a AK) λaf=>Aq (Ap Ai .add aa af AK) λag=>jn (λe ah b=>Aq (CV 26 e AK) λai=>WY 3 ai A3 b λaj=>Aq (An R Fu [aj] b AK) λak=>Aq (Ap Ai .add ah ak AK) λal=>WY 31 e Ac b λam=>Aq (Bq Ac am AK) λan=>Aq (Yr 1 Ab 1 [(0,1,an)] AK) λao=>Aq (An R EL [ao] b AK) λap=>Aq (Ap Ai .add al ap AK) λaq=>WY 31 e Ac b λar=>Aq (An R Hj [ar] b AK) λau=>Aq (Ap Ai .add aq au AK) λav=>Eh 32 e AR b λaw=>An R JB [aw] b λh=>Cx h 0 λax=>Cx h 1 λaX=>Yr 1 Ai 1 [(0,1,ax)] λay=>An R Hj [ay] b λaz=>Ap Ai .add av az λi=>jn (λa1 a2=>K a1 a2) λj=>Eh 0 e Ab b λa3=>Ap Ab .eql a3 (A0 3) λa4=>Az a4 (Eh 55 e DP b λa5=>Bx Kc DP b λf a6=>E0 DP f a5 a6 λc=>WY 0 f Ab c λa7=>Aq (Yr 1 Ab 1 [(0,1,a7)] AK) λa8=>Aq (An R EL [a8] c AK) λa9=>Aq (Ap Ai .add i a9 AK) λaA=>WY 1 f A3 c λaB=>Aq (An R Fu [aB] c AK) λaC=>Aq (Ap Ai .add aA aC AK) λaD=>WY 3 f A3 c λaE=>Aq (An R Fu [aE] c AK) λaF=>Aq (Ap Ai .add aD aF AK) λaG=>WY 5 f A3 c λaH=>Aq (An R Fu [aH] c AK) λaI=>Aq (Ap Ai .add aG aI AK) λaJ=>WY 7 f A3 c λaK=>Aq (An R Fu [aK] c AK) λaL=>Aq (Ap Ai .add aJ aL AK) λaM=>WY 64 e Ab c λaN=>Aq (Yr 1 Ab 1 [(0,1,aN)] AK) λaO=>Aq (An R EL [aO] c AK) λaP=>Aq (Ap Ai .add aM aP AK) λaQ=>j aQ c) (j i b)) λaR=>jn (λaS aT aU=>aR aS aT aU) λaV=>T8 L R K aV L d ag (A0 0) a
def NI:Ka Xl QL:= λL R K e ih b c f a d=>Ap Ab .geq a (A0 0) λg=>Az g (Bq Ai b λh=>Ap Ab .mul (A0 8) h λi=>Ap Ab .mul (A0 8) a λj=>Ap Ab .shr i j λk=>Jc Ab Bi k λl=>Hf Bt 1 Bi 1 [(0,1,l)] d λm n=>E9 Bt 1 Bi AU c m n λo p=>Ap Ab .sub a (A0 1) λq=>ih b o f q p) (e c d)
def KU:JZ Xl QL:=Kx uY NI
theorem Ze:Ld KU NI:= λ_ _ _ _ _=>rfl
def NH:Ka Xk QL:= λL R K e ih b a c f d=>Bq AU a λg=>Ap Ab .rem g (A0 64) λh=>Ap Ab .neq h (A0 56) λi=>Az i (Hf Bt 1 Bi 1 [(0,1,(AV.v (.int .u8 0)))] d λj k=>E9 Bt 1 Bi AU a j k λl m=>ih b l c f m) (e b a c d)
def XA6:JZ Xk QL:=Kx uY NH
theorem Zd:Ld XA6 NH:= λ_ _ _ _ _=>rfl
def NG:Ka QL QL:= λL R K f ih a c b d e=>Bq Ai a λg=>Ap Ab .lss b g λh=>Az h (iA Ai Ai a b λi=>Hf Bt 1 Bi 1 [(0,1,i)] e λj k=>E9 Bt 1 Bi AU c j k λl m=>Ap Ab .add b (A0 1) λn=>ih a l n d m) (f a c b d e)
def NC:JZ QL QL:=Kx uY NG
theorem Zc:Ld NC NG:= λ_ _ _ _ _=>rfl
def Pi:IX:= λL R a0 H K=>jn (λa b c d e=>Hf Bt 1 Bi 1 [(0,1,(AV.v (.int .u8 128)))] e λf g=>E9 Bt 1 Bi AU b f g λh i=>jn (λj k l m=>jn (λn o=>K n o) λp=>jn (λq r=>p q r) λs=>KU L R K s L j k l (A0 7) m) λt=>jn (λu w x y=>t u w x y) λz=>XA6 L R K z L a h c d i) λaa=>jn (λab ac ad ae af=>aa ab ac ad ae af) λag=>NC L R K ag L a0 Ti (A0 0) AV.dk H
def RS:Ka Xl WN:= λL R K f ih c g h i j k d l e a b=>Ap Ab .lss a (A0 8) λm=>Az m (OB AD c a Ak b λn=>OB AD d a Ak b λo=>Aq (Ap Ak .add n o AK) λp=>Ef (Hf Cg 1 Ak 1 [(0,1,p)] b λv H=>some (v,H)) λq r=>Ef (E9 Cg 1 Ak AD e q r λv H=>some (v,H)) λs t=>Ap Ab .add a (A0 1) λu=>ih c g h i j k d l s u t) (f e b)
def RO:JZ Xl WN:=Kx zU RS
theorem jW:Ld RO RS:= λ_ _ _ _ _=>rfl
def RR:Ka xA WN:= λL R K m ih h i f j k g b e n o a=>Ap Ab .lss e (A0 64) λp=>Az p (Dw AD b (A0 0) λq=>AF Ak q a λc=>Dw AD b (A0 4) λr=>AF Ak r a λd=>Aq (Dw AD b (A0 7) AK) λs=>Aq (AF Ak s a AK) λt=>Aq (An R Dv [d,(A0 6)] a AK) λu=>Aq (An R Dv [d,(A0 11)] a AK) λw=>Aq (Ap Ak .xor u w AK) λx=>Aq (An R Dv [d,(A0 25)] a AK) λy=>Aq (Ap Ak .xor x y AK) λz=>Aq (Ap Ak .add t z AK) λaa=>Aq (Dw AD b (A0 5) AK) λab=>Aq (AF Ak ab a AK) λac=>Aq (Ap Ak .and d ac AK) λad=>Aq (Mg .xor d AK) λae=>Aq (Dw AD b (A0 6) AK) λaf=>Aq (AF Ak af a AK) λag=>Aq (Ap Ak .and ae ag AK) λah=>Aq (Ap Ak .xor ad ah AK) λai=>Aq (Ap Ak .add aa ai AK) λaj=>OB AD g e Ak a λak=>Aq (Ap Ak .add aj ak AK) λal=>OB AD f e Ak a λam=>Aq (Ap Ak .add al am AK) λl=>Aq (An R Dv [c,(A0 2)] a AK) λan=>Aq (An R Dv [c,(A0 13)] a AK) λao=>Aq (Ap Ak .xor an ao AK) λap=>Aq (An R Dv [c,(A0 22)] a AK) λaq=>Aq (Ap Ak .xor ap aq AK) λar=>Aq (Dw AD b (A0 1) AK) λau=>Aq (AF Ak au a AK) λav=>Aq (Ap Ak .and c av AK) λaw=>Aq (Dw AD b (A0 2) AK) λax=>Aq (AF Ak ax a AK) λay=>Aq (Ap Ak .and c ay AK) λaz=>Aq (Ap Ak .xor aw az AK) λa0=>Aq (Dw AD b (A0 1) AK) λa1=>Aq (AF Ak a1 a AK) λa2=>Aq (Dw AD b (A0 2) AK) λa3=>Aq (AF Ak a3 a AK) λa4=>Aq (Ap Ak .and a2 a4 AK) λa5=>Aq (Ap Ak .xor a0 a5 AK) λa6=>Aq (Ap Ak .add ar a6 AK) λa7=>Aq (Ap Ak .add l a7 AK) λa8=>Aq (Dw AD b (A0 1) AK) λa9=>Aq (AF Ak a9 a AK) λaA=>Aq (Dw AD b (A0 2) AK) λaB=>Aq (AF Ak aB a AK) λaC=>Aq (Dw AD b (A0 3) AK) λaD=>Aq (AF Ak aD a AK) λaE=>Aq (Ap Ak .add aE l AK) λaF=>Aq (Dw AD b (A0 5) AK) λaG=>Aq (AF Ak aG a AK) λaH=>Aq (Dw AD b (A0 6) AK) λaI=>Aq (AF Ak aI a AK) λaJ=>Ef (Hf Cg 1 Ak 8 [(0,1,a8),(1,1,c),(2,1,aA),(3,1,aC),(4,1,aF),(5,1,d),(6,1,aH),(7,1,aJ)] a λv H=>some (v,H)) λaK aL=>Ap Ab .add e (A0 1) λaM=>ih h i f j k g aK aM n o aL) (m h i f j k g b e a)
def RN:JZ xA WN:=Kx zU RR
theorem jV:Ld RN RR:= λ_ _ _ _ _=>rfl
def RQ:Ka F7N WN:= λL R K i ih d e c f b j k l g h a=>Ap Ab .lss b (A0 64) λm=>Az m (Aq (Ap Ab .sub b (A0 15) AK) λn=>OB AD c n Ak a λo=>Aq (An R Dv [o,(A0 7)] a AK) λp=>Aq (Ap Ab .sub b (A0 15) AK) λq=>OB AD c q Ak a λr=>Aq (An R Dv [r,(A0 18)] a AK) λs=>Aq (Ap Ak .xor p s AK) λt=>Aq (Ap Ab .sub b (A0 15) AK) λu=>OB AD c u Ak a λw=>Aq (Ap Ak .shr w (AV.v (.int .u64 3)) AK) λx=>Aq (Ap Ak .xor t x AK) λy=>Aq (Ap Ab .sub b (A0 2) AK) λz=>OB AD c z Ak a λaa=>Aq (An R Dv [aa,(A0 17)] a AK) λab=>Aq (Ap Ab .sub b (A0 2) AK) λac=>OB AD c ac Ak a λad=>Aq (An R Dv [ad,(A0 19)] a AK) λae=>Aq (Ap Ak .xor ab ae AK) λaf=>Aq (Ap Ab .sub b (A0 2) AK) λag=>OB AD c ag Ak a λah=>Aq (Ap Ak .shr ah (AV.v (.int .u64 10)) AK) λai=>Aq (Ap Ak .xor af ai AK) λaj=>Aq (Ap Ab .sub b (A0 16) AK) λak=>OB AD c ak Ak a λal=>Aq (Ap Ak .add al y AK) λam=>Aq (Ap Ab .sub b (A0 7) AK) λan=>OB AD c an Ak a λao=>Aq (Ap Ak .add am ao AK) λap=>Aq (Ap Ak .add ap aj AK) λaq=>Ef (Hf Cg 1 Ak 1 [(0,1,aq)] a λv H=>some (v,H)) λar au=>Ef (E9 Cg 1 Ak AD c ar au λv H=>some (v,H)) λav aw=>Ap Ab .add b (A0 1) λax=>ih d e av f ax j k l g h aw) (i d e c f b g h a)
def RM:JZ F7N WN:=Kx zU RQ
theorem jU:Ld RM RQ:= λ_ _ _ _ _=>rfl
def RP:Ka F9N WN:= λL R K k ih d b e a l f g h i j c=>Ap Ab .lss a (A0 16) λm=>Az m (Aq (Ap Ab .mul (A0 4) a AK) λn=>OB AU b n Bi c λo=>Aq (Jc Bi Ak o AK) λp=>Aq (Ap Ak .shl p (AV.v (.int .u64 24)) AK) λq=>Aq (Ap Ab .mul (A0 4) a AK) λr=>Aq (Ap Ab .add r (A0 1) AK) λs=>OB AU b s Bi c λt=>Aq (Jc Bi Ak t AK) λu=>Aq (Ap Ak .shl u (AV.v (.int .u64 16)) AK) λw=>Aq (Ap Ak .or q w AK) λx=>Aq (Ap Ab .mul (A0 4) a AK) λy=>Aq (Ap Ab .add y (A0 2) AK) λz=>OB AU b z Bi c λaa=>Aq (Jc Bi Ak aa AK) λab=>Aq (Ap Ak .shl ab (AV.v (.int .u64 8)) AK) λac=>Aq (Ap Ak .or x ac AK) λad=>Aq (Ap Ab .mul (A0 4) a AK) λae=>Aq (Ap Ab .add ae (A0 3) AK) λaf=>OB AU b af Bi c λag=>Aq (Jc Bi Ak ag AK) λah=>Aq (Ap Ak .or ad ah AK) λai=>Ef (Hf Cg 1 Ak 1 [(0,1,ai)] c λv H=>some (v,H)) λaj ak=>Ef (E9 Cg 1 Ak AD e aj ak λv H=>some (v,H)) λal am=>Ap Ab .add a (A0 1) λan=>ih d b al an l f g h i j am) (k d b e a f g h i j c)
def RL:JZ F9N WN:=Kx zU RP
theorem jT:Ld RL RP:= λ_ _ _ _ _=>rfl
def TS:Jq:= λL R a0 a1 H K=>jn (λc d e f g h i j k l=>jn (λa m n o p q r b=>An R On [] b λs=>E9 Cg 1 Ak AD Ti a b λt u=>jn (λv w x y z aa ab ac ad=>jn (λae af=>K ae af) λag=>jn (λah ai=>ag ah ai) λaj=>RO L R K aj L v w x y z aa ab ac Ti (A0 0) ad) λak=>jn (λal am an ao ap aq ar au av=>ak al am an ao ap aq ar au av) λaw=>RN L R K aw L a m n o p s t (A0 0) q r u) λax=>jn (λay az a2 a3 a4 a5 a6 a7=>ax ay az a2 a3 a4 a5 a6 a7) λa8=>RM L R K a8 L c d e f (A0 16) g h i j k l) λa9=>jn (λaA aB aC aD aE aF aG aH aI aJ=>a9 aA aB aC aD aE aF aG aH aI aJ) λaK=>RL L R K aK L a0 a1 Ti (A0 0) AV.dk AV.dk AV.dk AV.dk AV.dk AV.dk H
def Yf:Ka Us dT:= λL R K o ih i a j k c d=>Ap Ab .lss c k λp=>Az p (Iv Av j c Ae d λq=>Bx Ad Ae d λe r=>E0 Ae e q r λb=>AF Ae e b λs=>An R FG [s] b λf=>LQ f λt=>YV Ae true a t b λl=>Cx l 0 λu=>Cx l 1 λg=>Bx Ad Ae b λv w=>E0 Ae v u w λm=>GT g m (some (f,m)) λx n=>GT g n (Ap Ai .eql x (WO []) (CX n)) λy h=>Ch g LW y λz=>Az z (L4 Ae h λaa ab=>K (AV.tup [aa,HQ]) ab) (AF Ae e h λac=>LQ f λad=>Mh a ad ac h λae=>Ap Ab .add c (A0 1) λaf=>ih i a j k af ae)) (o i a d)
def Ye:JZ Us dT:=Kx z5N Yf
theorem wS:Ld Ye Yf:= λ_ _ _ _ _=>rfl
def ZU:IX:= λL R a0 H K=>L4 Ae H λb c=>jn (λd e a=>Bq Av d λf=>Ap Ab .gtr f (A0 64) λg=>Az g (L4 Ae a λh i=>K (AV.tup [h,HQ]) i) (K (AV.tup [e,LW]) a)) λj=>Bq Av a0 λk=>jn (λl m n=>j l m n) λo=>Ye L R K o L a0 b a0 k (A0 0) c
def IU:IX:= λL R a0 H K=>Ip 69 L R a0 H K _
def MW:IX:= λL R a0 H K=>R.call GJ [a0] H λa b=>R.call Ea [a] b λc d=>K c d
def Dx:Jq:= λL R a0 a1 H K=>Lo 71 L R a0 a1 H K _
def Lt:IX:= λL R a0 H K=>Ip 72 L R a0 H K _
def JO:Jq:= λL R a0 a1 H K=>Lg a0 λe=>Eh 0 e Ah H λf=>R.call Bk [f] H λg h=>R.call BA [g] h λi b=>An R ME [i] b λj=>Hf A2 1 Ac 2 [(0,1,a1),(1,1,j)] b λk l=>R.call Gp [k] l λc m=>R.call AH [c] m λw n=>R.call Cm [c] n λa d=>Bq Ac a λo=>Ap Ab .eql o (A0 0) λp=>Az p (K Ti d) (Bq Ac a λq=>eMM true q (A0 64) λr=>Ee Ac a none (some r) none λs=>BZ A9 [(0,1,(A0 2)),(1,1,s)] λt=>Hf A7 3 A9 1 [(0,3,t)] d λu v=>K u v)
def D9:IX:= λL R a0 H K=>Ip 74 L R a0 H K _
def Kh:Jq:= λL R a0 a1 H K=>Lo 75 L R a0 a1 H K _
def HE:Jq:= λL R a0 a1 H K=>Lo 76 L R a0 a1 H K _
def FB:Ka Us QL:= λL R K g ih e d b c a=>Bq Ac b λh=>Ap Ab .lss c h λi=>Az i (jn (λj k=>Ap Ab .add c (A0 1) λl=>ih e j b l k) λm=>jn (λn o=>m n o) λf=>OB Ac b c Ai a λp=>Aq (Ap Ab .sub c (A0 1) AK) λq=>OB Ac b q Ai a λr=>Aq (Ap Ai .neq p r AK) λs=>Az s (Iv Ac b c Ai a λt=>Dw Ac e d λu=>E0 Ai u t a λv=>Ap Ab .add d (A0 1) λw=>f w v) (f d a)) (g e d a)
def FA:JZ Us QL:=Kx uY FB
theorem LX:Ld FA FB:= λ_ _ _ _ _=>rfl
def DW:Ka Xl QL:= λL R K f ih a b g h c=>Bq Ac a λi=>Ap Ab .lss b i λj=>Az j (OB Ac a b Ai c λk=>Aq (Ap Ab .sub b (A0 1) AK) λl=>OB Ac a l Ai c λm=>Aq (Ap Ai .eql k m AK) λn=>Az n (Ee Ac a (some b) none none λo=>jn (λd e p=>Ee Ac d (some e) none none λq=>uA 1 Ai q p λr=>Ee Ac d none (some e) none λs=>K s r) λt=>jn (λu v w=>t u v w) λx=>FA L R K x L a b o (A0 1) c) (Ap Ab .add b (A0 1) λy=>ih a y g h c)) (f a c)
def DV:JZ Xl QL:=Kx uY DW
theorem Ir:Ld DV DW:= λ_ _ _ _ _=>rfl
def Ek:IX:= λL R a0 H K=>Bq Ac a0 λa=>Ap Ab .lss a (A0 2) λb=>Az b (K a0 H) (jn (λc d=>K c d) λe=>jn (λf g=>e f g) λh=>DV L R K h L a0 (A0 1) AV.dk AV.dk H)
def KM:Jq:= λL R a0 a1 H K=>Lo 83 L R a0 a1 H K _
def LZ:IX:= λL R a0 H K=>An R Dt [a0] H λa=>R.call Ea [a] H λb c=>K b c
def Oa:Jq:= λL R a0 a1 H K=>Lo 85 L R a0 a1 H K _
def GM:Ka Xl Xk:= λL R K e ih a d b c=>Bq Ac a λf=>Ap Ab .lss b f λg=>Az g (Iv Ac a b Ai c λh=>eMM true d h λi=>Ap Ab .add b (A0 1) λj=>ih a i j c) (e d c)
def GL:JZ Xl Xk:=Kx z3N GM
theorem N8:Ld GL GM:= λ_ _ _ _ _=>rfl
def Hz:IX:= λL R a0 H K=>jn (λa=>Dw Ac a0 (A0 0) λb=>AF Ai b a λc=>jn (λd e=>K d e) λf=>jn (λg h=>f g h) λi=>GL L R K i L a0 c (A0 1) a) λj=>Bq Ac a0 λk=>Ap Ab .lss k (A0 1) λl=>Az l (none) (j H)
def NZ:Jq:= λL R a0 a1 H K=>Lo 87 L R a0 a1 H K _
def AE:Operand×Array Tmp×Code×Code:=XA8 (c88) 0
def CY:Jq:= λL R a0 a1 H K=>Ho Br a0 H λa e=>jn (λf c=>AF Av f c λg=>K g c) λh=>jn (λi j=>h i j) λd=>mV R 13 a1 [(2,a),(4,Ti),(5,AV.dk),(6,a1),(7,AV.dk),(8,AV.dk),(9,AV.dk),(10,AV.dk),(11,AV.dk)] (AE).2.1 (AE).2.2.1 (AE).2.2.2 e λk b=>mI k (d a b) (K Ti b) (λl=>@Bool.rec (λ_=>Af) (none) (d a b) (Nat.beq l 0)) (λ_=>none)
theorem Hv (L:Nat) (R:Rt) (c2:AV) (c4:AV) (c5:AV) (c6:AV) (c7:AV) (c8:AV) (c9:AV) (c10:AV) (c11:AV) (a0:AV) (P:Hp->(Hp->Af)->Af) (Q:Exit->Hp->Af) (H:Hp):rdK (λcf=>OG (E L) R cf) 13 [(2,c2),(4,c4),(5,c5),(6,c6),(7,c7),(8,c8),(9,c9),(10,c10),(11,c11)] (AE).2.1 [a0] (AE).2.2.1 (AE).2.2.2 H P Q=Bx Ad Ae H λb c=>E0 Ae b a0 c λd=>P d λa=>AF Av c2 a λe=>AF Ae b a λf=>Hf Ad 68 Ae 1 [(0,68,f)] a λg h=>E9 Ad 68 Ae Av e g h λi j=>E0 Av c2 i j λk=>Q .normal k:=by kernel_rfl
def BX:Ka (Hp->Af) Us:= λL R K g ih c a h=>Yp a h λi b=>Cx i 0 λj=>Az j (Zv a b λk=>Cx k 1 λl=>Bx Ad Ae b λd m=>E0 Ae d l m λe=>AF Ae d e λn=>Cr (E L) R c [n] e λo f=>Mg .not o λp=>Az p (K (AV.tup []) f) (ih c a f)) (g b)
def BW:JZ (Hp->Af) Us:=Kx z2N BX
theorem EZ:Ld BW BX:= λ_ _ _ _ _=>rfl
def Bw:Jq:= λL R a0 a1 H K=>AF Ah a1 H λa=>Wz a H λb c=>jn (λd=>K (AV.tup []) d) λe=>BW L R K e L a0 b c
def G9:Jq:= λL R a0 a1 H K=>Lo 90 L R a0 a1 H K _
def Ib:Ka (Hp->Af) dT:= λL R K h ih c d e f b a=>Ap Ab .lss b f λi=>Az i (Iv Ac e b Ai a λj=>AF BF d a λk=>Lg k λl=>Eh 0 l Ah a λm=>LQ j λn=>YV Ae false m n a λo=>An R La [o] a λp=>Cr (E L) R c [p] a λq g=>Mg .not q λr=>Az r (K (AV.tup []) g) (Ap Ab .add b (A0 1) λs=>ih c d e f s g)) (h a)
def Ia:JZ (Hp->Af) dT:=Kx z5N Ib
theorem Pe:Ld Ia Ib:= λ_ _ _ _ _=>rfl
def I0:Y3N:= λL R a0 a1 a2 H K=>AF Ac a1 H λa=>Bq Ac a λb=>jn (λc=>K (AV.tup []) c) λd=>Ia L R K d L a0 a2 a b (A0 0) H
def Ob:IX:= λL R a0 H K=>Ho Ad a0 H λa k=>Bx Ad Ae k λe b=>CV 26 a λl=>Eh 2 l AA b λm=>An R Fs [m] b λn=>CV 26 a λo=>CV 2 o λp=>E0 AA p n b λf=>Eh 31 a Ac f λq=>R.call Bg [q] f λr s=>CV 31 a λt=>E0 Ac t r s λc=>CV 32 a λu=>Eh 1 u Al c λv=>An R DN [v] c λw=>CV 32 a λx=>CV 1 x λy=>E0 Al y w c λd=>CV 32 a λz=>Eh 2 z Ax d λaa=>An R DO [aa] d λab=>CV 32 a λac=>CV 2 ac λad=>E0 Ax ad ab d λg=>CV 65 a λae=>Eh 1 ae Ac g λaf=>R.call Bg [af] g λag ah=>CV 65 a λai=>CV 1 ai λaj=>E0 Ac aj ag ah λh=>CV 65 a λak=>Eh 2 ak Ac h λal=>R.call Bg [al] h λam an=>CV 65 a λao=>CV 2 ao λap=>E0 Ac ap am an λi=>AF Ae a i λaq=>E0 Ae e aq i λj=>AF Ae e j λar=>K ar j
def DE:Ka (Hp->Af) QL:= λL R K g ih c d e a b=>Ap Ab .lss a e λh=>Az h (Iv Ac c a Ai b λi=>Cr (E L) R d [i] b λj f=>Az j (K a f) (Ap Ab .add a (A0 1) λk=>ih c d e k f)) (g b)
def DD:JZ (Hp->Af) QL:=Kx uY DE
theorem Ht:Ld DD DE:= λ_ _ _ _ _=>rfl
def DL:Jq:= λL R a0 a1 H K=>jn (λa=>K (A0 (-1)) a) λb=>Bq Ac a0 λc=>jn (λd=>b d) λe=>DD L R K e L a0 a1 c (A0 0) H
def EB:IX:= λL R a0 H K=>R.call IC [Ti,a0] H λa b=>K a b
def Ca:Ka (Hp->Af) Us:= λL R K e ih c a f=>Yp a f λg b=>Cx g 0 λh=>Az h (Zv a b λi=>Cx i 0 λj=>Cr (E L) R c [j] b λk d=>Mg .not k λl=>Az l (K (AV.tup []) d) (ih c a d)) (e b)
def Bz:JZ (Hp->Af) Us:=Kx z2N Ca
theorem Fh:Ld Bz Ca:= λ_ _ _ _ _=>rfl
def Ci:Jq:= λL R a0 a1 H K=>AF Ah a1 H λa=>Wz a H λb c=>jn (λd=>K (AV.tup []) d) λe=>Bz L R K e L a0 b c
def Gg:IX:= λL R a0 H K=>Ip 96 L R a0 H K _
def G7:Ka (Hp->Af) QL:= λL R K g ih c d e b a=>Ap Ab .lss b e λh=>Az h (Iv B4 d b Ab a λi=>An R KB [i] a λf=>Cx f 0 λj=>Cx f 1 λo=>Lg c λk=>CV 0 k λl=>R.call BE [l,j] a λp m=>Ap Ab .add b (A0 1) λn=>ih c d e n m) (g a)
def G6:JZ (Hp->Af) QL:=Kx uY G7
theorem Nt:Ld G6 G7:= λ_ _ _ _ _=>rfl
def GS:Jq:= λL R a0 a1 H K=>Bq B4 a1 λa=>jn (λb=>K (AV.tup []) b) λc=>G6 L R K c L a0 a1 a (A0 0) H
def Hy:Ka (Hp->Af) QL:= λL R K g ih c d e b a=>Ap Ab .lss b e λh=>Az h (Iv Ac d b Ai a λi=>An R PB [i] a λf=>Cx f 0 λj=>Cx f 1 λo=>Lg c λk=>CV 0 k λl=>R.call BE [l,j] a λp m=>Ap Ab .add b (A0 1) λn=>ih c d e n m) (g a)
def Hw:JZ (Hp->Af) QL:=Kx uY Hy
theorem OI:Ld Hw Hy:= λ_ _ _ _ _=>rfl
def Ii:Jq:= λL R a0 a1 H K=>Bq Ac a1 λa=>jn (λb=>K (AV.tup []) b) λc=>Hw L R K c L a0 a1 a (A0 0) H
def GO:Ka (Hp->Af) QL:= λL R K h ih e f g a b=>Ap Ab .lss a g λi=>Az i (Iv Jl f a A3 b λj=>Bx Bp A3 b λc k=>E0 A3 c j k λd=>Eh 0 c Ai d λl=>Eh 1 c Ai d λm=>Hf Ar 1 Ai 2 [(0,1,l),(1,1,m)] d λn o=>R.call Cw [e,n] o λr p=>Ap Ab .add a (A0 1) λq=>ih e f g q p) (h b)
def GN:JZ (Hp->Af) QL:=Kx uY GO
theorem NM:Ld GN GO:= λ_ _ _ _ _=>rfl
def HF:Jq:= λL R a0 a1 H K=>Bq Jl a1 λa=>jn (λb=>K (AV.tup []) b) λc=>GN L R K c L a0 a1 a (A0 0) H
def MO:Ka Us xA:= λL R K i ih e a j k l f g b c=>Ap Ab .lss b g λm=>Az m (Iv Ax f b AN c λn=>Bx AT AN c λh o=>E0 AN h n o λd=>AF AN h d λp=>An R FE [p] d λq=>Ap Ai .add q (WO [10]) λr=>R.call BE [a,r] d λu s=>Ap Ab .add b (A0 1) λt=>ih e a j k l f g t s) (i e a c)
def MM:JZ Us xA:=Kx z8N MO
theorem XF:Ld MM MO:= λ_ _ _ _ _=>rfl
def MN:Ka dT xA:= λL R K j ih g b c d a k l m e=>Ap Ab .lss a d λn=>Az n (Iv Al c a Ay e λo=>Bx A6 Ay e λh p=>E0 Ay h o p λf=>AF Ay h f λq=>An R Ju [q] f λi=>Cx i 0 λr=>Cx i 1 λw=>Ap Ai .add (WO [103,105,118,101,110,32]) r λs=>Ap Ai .add s (WO [10]) λt=>R.call BE [b,t] f λx u=>Ap Ab .add a (A0 1) λv=>ih g b c d v k l m u) (j g b c d a e)
def ML:JZ dT xA:=Kx z8N MN
theorem XD:Ld ML MN:= λ_ _ _ _ _=>rfl
def NT:IX:= λL R a0 H K=>Ho Cv a0 H λa b=>AF AR a b λm=>An R Gs [m] b λn=>Mg .not n λo=>Az o (K (AV.tup [(WO []),(A0 90)]) b) (Bx E1 BG b λe c=>Eh 0 a Ab c λp=>An R BP [p] c λq=>Ap Ai .add (WO [112,114,111,99,101,100,117,114,101,32]) q λr=>Ap Ai .add r (WO [10]) λs=>R.call BE [e,s] c λaw f=>jn (λg t u v w h=>jn (λx i d=>Eh 3 x Ay d λy=>An R Ju [y] d λj=>Cx j 0 λz=>Cx j 1 λax=>Ap Ai .add (WO [111,117,116,112,117,116,32]) z λaa=>Ap Ai .add aa (WO [10]) λab=>R.call BE [i,ab] d λay ac=>R.call EH [i] ac λad ae=>K (AV.tup [ad,(A0 0)]) ae) λaf=>Eh 2 g Ax h λk=>Bq Ax k λag=>jn (λah ai aj=>af ah ai aj) λak=>MM L R K ak L g t u v w k ag (A0 0) h) λal=>Eh 1 a Al f λl=>Bq Al l λam=>jn (λan ao ap aq ar au=>al an ao ap aq ar au) λav=>ML L R K av L a e l am (A0 0) AV.dk AV.dk AV.dk f)
def JN:IX:= λL R a0 H K=>Ip 104 L R a0 H K _
def IM:IX:= λL R a0 H K=>Ip 105 L R a0 H K _
def Iy:Jq:= λL R a0 a1 H K=>Ho OW a0 H λc d=>Ho GZ a1 d λa b=>jn (λe=>K (AV.fn (.func Jv) [] [c,a]) e) λf=>AF Ab a b λg=>Ap Ab .lss g (A0 1) λh=>Az h (none) (f b)
def KJ:Ka (Hp->Af) F6N:= λL R K e ih c f d g h a b=>Ap Ab .lss a (A0 8) λi=>Az i (Aq (Lg c AK) λj=>OB AO j a Ak b λk=>OB AO d a Ak b λl=>Aq (Ap Ak .add k l AK) λm=>Aq (Lg c AK) λn=>Aq (Dw AO n a AK) λo=>Ef (E0 Ak o m b λH=>some (AV.v undef,H)) λr p=>Ap Ab .add a (A0 1) λq=>ih c f d g h q p) (e b)
def KH:JZ (Hp->Af) F6N:=Kx z6N KJ
theorem UK:Ld KH KJ:= λ_ _ _ _ _=>rfl
def KI:Ka dT F6N:= λL R K k ih h d a e c l b=>Ap Ab .lss c (A0 64) λm=>Az m (iA Ck Ak e c λn=>Aq (Dw AO a (A0 0) AK) λo=>Aq (AF Ak o b AK) λf=>Aq (Dw AO a (A0 4) AK) λp=>Aq (AF Ak p b AK) λg=>Aq (Dw AO a (A0 7) AK) λq=>Aq (AF Ak q b AK) λr=>Aq (Yr 1 Ab 3 [(0,1,(A0 6)),(1,1,(A0 11)),(2,1,(A0 25))] AK) λs=>Aq (An R EI [g,s] b AK) λt=>Aq (Ap Ak .add r t AK) λu=>Aq (Dw AO a (A0 5) AK) λw=>Aq (AF Ak w b AK) λx=>Aq (Ap Ak .and g x AK) λy=>Aq (Mg .xor g AK) λz=>Aq (Dw AO a (A0 6) AK) λaa=>Aq (AF Ak aa b AK) λab=>Aq (Ap Ak .and z ab AK) λac=>Aq (Ap Ak .xor y ac AK) λad=>Aq (Ap Ak .add u ad AK) λae=>Aq (Ap Ak .add ae n AK) λaf=>OB Ck d c Ak b λag=>Aq (Ap Ak .add af ag AK) λi=>Aq (Yr 1 Ab 3 [(0,1,(A0 2)),(1,1,(A0 13)),(2,1,(A0 22))] AK) λah=>Aq (An R EI [f,ah] b AK) λai=>Aq (Dw AO a (A0 1) AK) λaj=>Aq (AF Ak aj b AK) λak=>Aq (Ap Ak .and f ak AK) λal=>Aq (Dw AO a (A0 2) AK) λam=>Aq (AF Ak am b AK) λan=>Aq (Ap Ak .and f an AK) λao=>Aq (Ap Ak .xor al ao AK) λap=>Aq (Dw AO a (A0 1) AK) λaq=>Aq (AF Ak aq b AK) λar=>Aq (Dw AO a (A0 2) AK) λau=>Aq (AF Ak au b AK) λav=>Aq (Ap Ak .and ar av AK) λaw=>Aq (Ap Ak .xor ap aw AK) λax=>Aq (Ap Ak .add ai ax AK) λay=>Aq (wX 8 1 a (some (A0 1)) none b AK) λaz=>Aq (wX 8 1 a none (some (A0 7)) b AK) λa0=>Ef (A1I 1 az a0 b λv H=>some (v,H)) λaA j=>Ap Ak .add i ay λa1=>Dw AO a (A0 4) λa2=>AF Ak a2 j λa3=>Ap Ak .add a3 i λa4=>Dw AO a (A0 0) λa5=>E0 Ak a5 a1 j λa6=>Dw AO a (A0 4) λa7=>E0 Ak a7 a4 a6 λa8=>Ap Ab .add c (A0 1) λa9=>ih h d a e a9 l a8) (k h d a e c b)
def KG:JZ dT F6N:=Kx z6N KI
theorem UJ:Ld KG KI:= λ_ _ _ _ _=>rfl
def Lr:Jq:= λL R a0 a1 H K=>An R Ow [a1] H λe=>Bx De Ck H λa f=>E0 Ck a e f λb=>Lg a0 λg=>AF AO g b λh=>Bx BH AO b λc i=>E0 AO c h i λd=>jn (λj k l m n o=>jn (λp=>K (AV.tup []) p) λq=>KH L R K q L j k l m n (A0 0) o) λr=>AF Ck (AV.iptr gl0) d λs=>jn (λt u v w x y=>r t u v w x y) λz=>KG L R K z L a0 a c s (A0 0) AV.dk d
def Kt:Ka F6N F6N:= λL R K h ih b c d e f a g=>Ap Ab .lss a (A0 4) λi=>Az i (Ap Ab .mul (A0 4) c λj=>Ap Ab .add j a λk=>Ap Ab .mul (A0 8) a λl=>Ap Ab .sub (A0 24) l λm=>Ap Ak .shr d m λn=>Jc Ak Bi n λo=>Dw Tx b k λp=>E0 Bi p o g λq=>Ap Ab .add a (A0 1) λr=>ih b c d e f r q) (h b c d e f a g)
def Kr:JZ F6N F6N:=Kx z6N Kt
theorem Uk:Ld Kr Kt:= λ_ _ _ _ _=>rfl
def Ku:Ka Xl F6N:= λL R K e ih b ag ah c a ai d=>Ap Ab .lss a (A0 8) λf=>Az f (jn (λg h i j k l m=>Ap Ab .add k (A0 1) λn=>ih g h i j n l m) λo=>jn (λp q r s t u v=>o p q r s t u v) λw=>iA AO Ak c a λx=>jn (λy z aa ab ac ad ae=>w y z aa ab ac ad ae) λaf=>Kr L R K af L b a x c a (A0 0) d) (e b d)
def Ks:JZ Xl F6N:=Kx z6N Ku
theorem Ul:Ld Ks Ku:= λ_ _ _ _ _=>rfl
def KN:IX:= λL R a0 H K=>Ho BH a0 H λc d=>Bx Vt Tx d λe b=>jn (λf a=>wX 32 1 f none none a λg=>wY g a λh=>K h a) λi=>AF AO c b λj=>jn (λk l=>i k l) λm=>Ks L R K m L e AV.dk AV.dk j (A0 0) AV.dk b
def H?:Jq:= λL R a0 a1 H K=>Lo 109 L R a0 a1 H K _
def oD:IX:= λL R a0 H K=>Ip 110 L R a0 H K _
def A0V:Jq:= λL R a0 a1 H K=>Lo 116 L R a0 a1 H K _
def NO:Y3N:= λL R a0 a1 a2 H K=>Ho Cv a0 H λav aw=>Ho AT a1 aw λa y=>Eh 0 a Ab y λax=>BZ AN [(0,1,ax)] λay=>Bx AT AN y λb az=>E0 AN b ay az λc=>Eh 0 a Ab c λd=>Ap Ab .eql d (A0 1) λa3=>Az a3 (Eh 1 a A3 c λa4=>CV 1 b λa5=>E0 A3 a5 a4 c λz=>Eh 3 a Ay z λa6=>CV 3 b λa7=>E0 Ay a7 a6 z λe=>Eh 1 a A3 e λa8=>An R Fy [a8] e λa9=>Eh 3 a Ay e λaA=>An R Fw [aA] e λaB=>AF AN a e λaC=>AF AN b e λaD=>Xg L3 .eql aC aD λaa=>Df aa e (some (a9,e)) λaE ab=>Ch aa aE HQ λac=>Df ac ab (some (aB,ab)) λaF aG=>Ch ac aF HQ λaH=>K (AV.tup [aH,HQ]) aG) (Ap Ab .eql d (A0 2) λaI=>Az aI (Eh 23 a Ab c λaJ=>CV 23 b λaK=>E0 Ab aK aJ c λm=>AF AN a m λaL=>AF AN b m λaM=>Xg L3 .eql aL aM λg=>Xf g m 23 a Ab λaN aO=>Xf g aO 1 av Al λaP ad=>Df g ad (Bq Al aP (CX ad)) λaQ ae=>Df g ae (Ap Ab .sub aQ (A0 1) (CX ae)) λaR n=>Df g n (An R Dz [aN,(A0 0),aR] n (CX n)) λaS aT=>Ch g aS HQ λaU=>K (AV.tup [aU,HQ]) aT) (jn (λaV f=>Az aV (Eh 24 a Ab f λaW=>CV 24 b λaX=>E0 Ab aX aW f λaf=>Eh 25 a Ab af λaY=>CV 25 b λaZ=>E0 Ab aZ aY af λo=>AF AN a o λba=>AF AN b o λbb=>Xg L3 .eql ba bb λh=>Xf h o 24 a Ab λbc ag=>Df h ag (some (a2,ag)) λbd ah=>Df h ah (Ap Ab .sub bd (A0 1) (CX ah)) λbe p=>Df h p (An R Dz [bc,(A0 0),be] p (CX p)) λbf bg=>Ch h bf HQ λi=>Xf i bg 25 a Ab λbh ai=>Df i ai (some (a2,ai)) λbi aj=>Df i aj (Ap Ab .sub bi (A0 1) (CX aj)) λbj q=>Df i q (An R Dz [bh,(A0 0),bj] q (CX q)) λbk bl=>Ch i bk HQ λbm=>K (AV.tup [bm,LW]) bl) (Ap Ab .eql d (A0 7) λbn=>Az bn (Eh 24 a Ab f λbo=>CV 24 b λbp=>E0 Ab bp bo f λak=>Eh 23 a Ab ak λbq=>CV 23 b λbr=>E0 Ab br bq ak λr=>AF AN a r λbs=>AF AN b r λbt=>Xg L3 .eql bs bt λj=>Xf j r 24 a Ab λbu al=>Df j al (some (a2,al)) λbv am=>Df j am (Ap Ab .sub bv (A0 1) (CX am)) λbw s=>Df j s (An R Dz [bu,(A0 0),bw] s (CX s)) λbx bz=>Ch j bx HQ λt=>Xf t bz 23 a Ab λb0 u=>Df t u (An R Dz [b0,(A0 (-4)),(A0 4)] u (CX u)) λb1 b2=>Ch t b1 HQ λv=>Xf v b2 23 a Ab λb3 an=>Df v an (Ap Ab .neq b3 (A0 0) (CX an)) λb4 b5=>Ch v b4 HQ λb6=>K (AV.tup [b6,LW]) b5) (Ap Ab .eql d (A0 8) λb7=>Az b7 (Eh 24 a Ab f λb8=>CV 24 b λb9=>E0 Ab b9 b8 f λw=>AF AN a w λbA=>AF AN b w λbB=>Xg L3 .eql bA bB λk=>Xf k w 24 a Ab λbC ao=>Df k ao (some (a2,ao)) λbD ap=>Df k ap (Ap Ab .sub bD (A0 1) (CX ap)) λbE x=>Df k x (An R Dz [bC,(A0 0),bE] x (CX x)) λbF bG=>Ch k bF HQ λbH=>K (AV.tup [bH,LW]) bG) (K (AV.tup [HQ,HQ]) f)))) λl=>Ap Ab .eql d (A0 3) λaq=>Az aq (l aq c) (Ap Ab .eql d (A0 4) λar=>Az ar (l ar c) (Ap Ab .eql d (A0 5) λau=>Az au (l au c) (Ap Ab .eql d (A0 6) λbI=>l bI c)))))
def sT:IX:= λL R a0 H K=>Ip 122 L R a0 H K _
def RK:Ka (Hp->Af) Us:= λL R K ai ih g c d=>Eh 2 g AA d λaj=>Bq AA aj λak=>Ap Ab .lss c ak λal=>Az al (Eh 2 g AA d λam=>Iv AA am c BS d λan=>Bx AY BS d λb ao=>E0 BS b an ao λh=>Eh 1 b A3 h λap=>An R Fy [ap] h λaq=>Aq (Mg .not aq AK) λe=>GT e h (Aq (CV 1 b AK) (CX h)) λar k=>GT e k (Aq (AF A3 ar k AK) (CX k)) λau l=>GT e l (Aq (An R My [(A0 0)] l AK) (CX l)) λav r=>GT e r (Aq (Xg Re .eql au av AK) (CX r)) λaw s=>Aq (Ch e LW aw AK) λi=>GT i s (Aq (CV 0 b AK) (CX s)) λax m=>GT i m (Aq (AF Ab ax m AK) (CX m)) λay t=>GT i t (Aq (Ap Ab .lss ay (A0 1) AK) (CX t)) λaz u=>Aq (Ch i LW az AK) λj=>GT j u (Aq (CV 0 b AK) (CX u)) λa0 n=>GT j n (Aq (AF Ab a0 n AK) (CX n)) λa1 v=>GT j v (Aq (Ap Ab .gtr a1 (A0 1000000) AK) (CX v)) λa2 w=>Aq (Ch j LW a2 AK) λf=>GT f w (some (c,w)) λa3 x=>GT f x (Aq (Ap Ab .gtr a3 (A0 0) AK) (CX x)) λa4 y=>GT f y (some (a4,y)) λa z=>Df a z (Aq (CV 2 g AK) (CX z)) λa5 o=>Df a o (Aq (AF AA a5 o AK) (CX o)) λa6 aa=>Df a aa (some (c,aa)) λa7 ab=>Df a ab (Aq (Ap Ab .sub a7 (A0 1) AK) (CX ab)) λa8 ac=>Df a ac (Aq (Dw AA a6 a8 AK) (CX ac)) λa9 ad=>Df a ad (Aq (CV 0 a9 AK) (CX ad)) λaA p=>Df a p (Aq (AF Ab aA p AK) (CX p)) λaB ae=>Df a ae (Aq (CV 0 b AK) (CX ae)) λaC q=>Df a q (Aq (AF Ab aC q AK) (CX q)) λaD af=>Df a af (Aq (Ap Ab .geq aB aD AK) (CX af)) λaE ag=>GT f ag (Aq (Ch a aE HQ AK) (CX ag)) λaF ah=>Aq (Ch f LW aF AK) λaG=>Az aG (K HQ ah) (Ap Ab .add c (A0 1) λaH=>ih g aH ah)) (ai d)
def RJ:JZ (Hp->Af) Us:=Kx z2N RK
theorem jS:Ld RJ RK:= λ_ _ _ _ _=>rfl
def TR:IX:= λL R a0 H K=>Ho ED a0 H λc a=>Eh 0 c A3 a λq=>An R Fy [q] a λr=>Eh 3 c A3 a λs=>An R Fy [s] a λt=>Aq (Mg .not r AK) λe=>GT e a (some (t,a)) λu j=>GT e j (Aq (Mg .not u AK) (CX j)) λv k=>Aq (Ch e LW v AK) λb=>GT b k (Aq (CV 3 c AK) (CX k)) λw f=>GT b f (Aq (AF A3 w f AK) (CX f)) λx g=>GT b g (Aq (An R My [(A0 0)] g AK) (CX g)) λy h=>GT b h (Aq (An R Q9 [x,y] h AK) (CX h)) λz l=>GT b l (Aq (Ap Ab .lss z (A0 0) AK) (CX l)) λaa m=>Aq (Ch b LW aa AK) λd=>GT d m (Aq (CV 2 c AK) (CX m)) λab i=>GT d i (Aq (AF AA ab i AK) (CX i)) λac n=>GT d n (Aq (Bq AA ac AK) (CX n)) λad o=>GT d o (Aq (Ap Ab .gtr ad (A0 64) AK) (CX o)) λae p=>Aq (Ch d LW ae AK) λaf=>Az af (K HQ p) (jn (λag=>K LW ag) λah=>jn (λai=>ah ai) λaj=>RJ L R K aj L c (A0 0) p)
def RZ:Y3N:= λL R a0 a1 a2 H K=>q3N 125 L R a0 a1 a2 H K _
def LH:Ka Xk Xk:= λL R K e ih a c d b=>Ap Ab .lss d c λf=>Az f (OB Ac a d Ai b λg=>OB Ac a c Ai b λh=>Aq (Ap Ai .eql g h AK) λi=>Az i (Bq Ac a λj=>K (AV.tup [HQ,j]) b) (Ap Ab .add d (A0 1) λk=>ih a c k b)) (e a c d b)
def LF:JZ Xk Xk:=Kx z3N LH
theorem R9:Ld LF LH:= λ_ _ _ _ _=>rfl
def LI:Ka Xl Xk:= λL R K d ih a c aa b=>Bq Ac a λe=>Ap Ab .lss c e λf=>Az f (jn (λg h i j=>Ap Ab .add h (A0 1) λk=>ih g k i j) λl=>jn (λm n o p=>l m n o p) λq=>Iv Ac a c Ai b λr=>Bq Ai r λs=>Ap Ab .neq s (A0 32) λt=>Az t (Bq Ac a λu=>K (AV.tup [HQ,u]) b) (jn (λv w x y=>q v w x y) λz=>LF L R K z L a c (A0 0) b)) (d a b)
def LG:JZ Xl Xk:=Kx z3N LI
theorem RA:Ld LG LI:= λ_ _ _ _ _=>rfl
def MA:IX:= λL R a0 H K=>jn (λb c=>Bq Ac b λf=>Ap Ab .geq f (A0 1) λa=>Df a c (some (b,c)) λg d=>Df a d (Bq Ac g (CX d)) λh e=>Df a e (Ap Ab .leq h (A0 6) (CX e)) λi j=>Ch a i HQ λk=>Bq Ac b λl=>K (AV.tup [k,l]) j) λm=>jn (λn o=>m n o) λp=>LG L R K p L a0 (A0 0) AV.dk H
def TO:IX:= λL R a0 H K=>Ip 129 L R a0 H K _
def NB:Ka Xl Xk:= λL R K f ih b d c a=>Bq Ac b λg=>Ap Ab .lss c g λh=>Az h (Iv Ac b c Ai a λi=>An R Oo [i] a λe=>Cx e 0 λj=>Cx e 1 λm=>Ap Ai .add d j λk=>Ap Ab .add c (A0 1) λl=>ih b k l a) (f d a)
def R8:JZ Xl Xk:=Kx z3N NB
theorem UF:Ld R8 NB:= λ_ _ _ _ _=>rfl
def PM:IX:= λL R a0 H K=>jn (λa b=>K a b) λc=>jn (λd e=>c d e) λf=>R8 L R K f L a0 (WO []) (A0 0) H
def TN:IX:= λL R a0 H K=>Ip 132 L R a0 H K _
def RG:Ka Us QL:= λL R K e ih b d f c a=>Eh 2 b Ax a λg=>Bq Ax g λh=>Ap Ab .lss c h λi=>Az i (Eh 2 b Ax a λj=>Iv Ax j c AN a λk=>An R Jw [k] a λl=>Ap Ai .add d l λm=>Ap Ai .add m (WO [10]) λn=>Ap Ab .add c (A0 1) λo=>ih b n f o a) (e b d a)
def RE:JZ Us QL:=Kx uY RG
theorem jQ:Ld RE RG:= λ_ _ _ _ _=>rfl
def RF:Ka Xk QL:= λL R K f ih b d c g a=>Eh 1 b Al a λh=>Bq Al h λi=>Ap Ab .lss c i λj=>Az j (Eh 1 b Al a λk=>Iv Al k c Ay a λl=>An R JD [l] a λe=>Cx e 0 λm=>Cx e 1 λr=>Ap Ai .add d (WO [103,105,118,101,110,32]) λn=>Ap Ai .add n m λo=>Ap Ai .add o (WO [10]) λp=>Ap Ab .add c (A0 1) λq=>ih b p q g a) (f b d c a)
def RC:JZ Xk QL:=Kx uY RF
theorem jP:Ld RC RF:= λ_ _ _ _ _=>rfl
def TP:IX:= λL R a0 H K=>Ho Cv a0 H λb a=>AF AR b a λe=>An R FV [e] a λf=>Mg .not f λg=>Az g (K (AV.tup [(WO []),(A0 90)]) a) (Eh 0 b Ab a λh=>An R BY [h] a λi=>Ap Ai .add (WO [112,114,111,99,101,100,117,114,101,32]) i λj=>Ap Ai .add j (WO [10]) λk=>jn (λl m n o=>jn (λp q c=>Eh 3 p Ay c λr=>An R JD [r] c λd=>Cx d 0 λs=>Cx d 1 λah=>Ap Ai .add q (WO [111,117,116,112,117,116,32]) λt=>Ap Ai .add t s λu=>Ap Ai .add u (WO [10]) λv=>K (AV.tup [v,(A0 0)]) c) λw=>jn (λx y z=>w x y z) λaa=>RE L R K aa L l m n (A0 0) o) λab=>jn (λac ad ae af=>ab ac ad ae af) λag=>RC L R K ag L b k (A0 0) AV.dk a)
def Qt:Jq:= λL R a0 a1 H K=>Lo 137 L R a0 a1 H K _
def NP:Y0N:= λL R H K=>q0N 138 L R H K _
def Gj:Ka F6N F6N:= λL R K i ih b c g d e a f=>Ap Ab .lss a e λj=>Az j (Iv Ac d a Ai f λk=>Cr (E L) R b [c,k] f λl h=>Mg .not l λm=>Az m (K (AV.tup []) h) (Ap Ab .add a (A0 1) λn=>ih b c g d e n h)) (i b c g d e a f)
def Gh:JZ F6N F6N:=Kx z6N Gj
theorem K5:Ld Gh Gj:= λ_ _ _ _ _=>rfl
def Gk:Ka (Hp->Af) F6N:= λL R K g ih h af a ag ah ai i=>Yp a i λj b=>Cx j 0 λk=>Az k (jn (λl m n o p q r=>ih l m n o p q r) λs=>Zv a b λc=>Cx c 0 λt=>Cx c 1 λu=>Bx Ad Ae b λd v=>E0 Ae d u v λe=>Eh 31 d Ac e λf=>Bq Ac f λw=>jn (λx y z aa ab ac ad=>s x y z aa ab ac ad) λae=>Gh L R K ae L h t a f w (A0 0) e) (g b)
def Gi:JZ (Hp->Af) F6N:=Kx z6N Gk
theorem K6:Ld Gi Gk:= λ_ _ _ _ _=>rfl
def GC:Jq:= λL R a0 a1 H K=>AF Ah a1 H λa=>Wz a H λb c=>jn (λd=>K (AV.tup []) d) λe=>Gi L R K e L a0 AV.dk b AV.dk AV.dk AV.dk c
def Ez:IX:= λL R a0 H K=>Ip 140 L R a0 H K _
def Dp:Ka Xl F9N:= λL R K f ih g h c i j k d e a b=>Ap Ab .lss a e λl=>Az l (Iv EK d a Ac b λm=>E9 Ar 1 Ai Ac c m b λn o=>Ap Ab .add a (A0 1) λp=>ih g h n i j k d e p o) (f c b)
def FL:JZ Xl F9N:=Kx z9N Dp
theorem Fm:Ld FL Dp:= λ_ _ _ _ _=>rfl
def Do:Ka dT F9N:= λL R K h ih e f i b c a j k l d=>Ap Ab .lss a c λm=>Az m (jn (λn o=>Ap Ab .add a (A0 1) λp=>ih e n i b c p j k l o) λq=>jn (λr s=>q r s) λt=>Iv EK b a Ac d λu=>Bq Ac u λv=>Ap Ab .add f v λg=>Ap Ab .lss g (A0 0) λw=>Az w (none) (t g d)) (h e f b c a d)
def Jb:JZ dT F9N:=Kx z9N Do
theorem Fl:Ld Jb Do:= λ_ _ _ _ _=>rfl
def Ga:IX:= λL R a0 H K=>jn (λa b c d e f=>R.call EU [Ti,b] f λg h=>jn (λi j=>K i j) λk=>Bq EK a λl=>jn (λm n=>k m n) λo=>FL L R K o L a b g c d e a l (A0 0) h) λp=>Bq EK a0 λq=>jn (λr s t u v w=>p r s t u v w) λx=>Jb L R K x L a0 (A0 0) AV.dk a0 q (A0 0) AV.dk AV.dk AV.dk H
def DX:Operand×Array Tmp×Code×Code:=XA8 (C3g) 0
def Qw:IX:= λL R a0 H K=>An R L0 [a0] H λe=>Cx e 0 λi=>Cx e 1 λy=>Bx C9 Ah H λb j=>E0 Ah b i j λk=>L4 F4 k λl m=>Bx CL CA m λa n=>E0 CA a l n λc=>jn (λo f=>AF CA o f λp=>R.call Ko [p] f λq r=>K q r) λs=>AF Ah b c λt=>An R Fj [t] c λg=>jn (λu v=>s u v) λh=>mV R 27 g [(2,Ti),(3,b),(5,a),(7,AV.dk),(15,g),(17,AV.dk),(18,AV.dk),(19,AV.dk),(20,AV.dk),(21,AV.dk),(22,AV.dk),(23,AV.dk),(24,AV.dk)] (DX).2.1 (DX).2.2.1 (DX).2.2.2 c λw d=>mI w (h a d) (K Ti d) (λx=>@Bool.rec (λ_=>Af) (none) (h a d) (Nat.beq x 0)) (λ_=>none)
theorem ZP (L:Nat) (R:Rt) (c2:AV) (c3:AV) (c5:AV) (c7:AV) (c15:AV) (c17:AV) (c18:AV) (c19:AV) (c20:AV) (c21:AV) (c22:AV) (c23:AV) (c24:AV) (a0:AV) (a1:AV) (P:Hp->(Hp->Af)->Af) (Q:Exit->Hp->Af) (H:Hp):rdK (λcf=>OG (E L) R cf) 27 [(2,c2),(3,c3),(5,c5),(7,c7),(15,c15),(17,c17),(18,c18),(19,c19),(20,c20),(21,c21),(22,c22),(23,c23),(24,c24)] (DX).2.1 [a0,a1] (DX).2.2.1 (DX).2.2.2 H P Q=P H λa=>jn (λc=>Q .normal c) λb=>AF Ah c3 a λd=>An R Fi [d,a1] a λe=>Mg .not e λf=>Az f (AF CA c5 a λg=>BZ F4 [] λh=>LQ a1 λi=>Mh g i h a λj=>b j) (b a):=by kernel_rfl
def Dr:IX:= λL R a0 H K=>Ip 148 L R a0 H K _
def Fp:IX:= λL R a0 H K=>Ip 149 L R a0 H K _
def Fo:IX:= λL R a0 H K=>Ip 150 L R a0 H K _
def Fq:IX:= λL R a0 H K=>Ip 151 L R a0 H K _
def Bl:Operand×Array Tmp×Code×Code:=XA8 (C3f) 0
def Cz:Jq:= λL R a0 a1 H K=>Ho A2 a0 H λa e=>jn (λf c=>AF Ac f c λg=>K g c) λh=>jn (λi j=>h i j) λd=>mV R 13 a1 [(2,a),(4,Ti),(5,AV.dk),(6,a1),(7,AV.dk),(8,AV.dk),(9,AV.dk),(10,AV.dk),(11,AV.dk)] (Bl).2.1 (Bl).2.2.1 (Bl).2.2.2 e λk b=>mI k (d a b) (K Ti b) (λl=>@Bool.rec (λ_=>Af) (none) (d a b) (Nat.beq l 0)) (λ_=>none)
theorem Hu (L:Nat) (R:Rt) (c2:AV) (c4:AV) (c5:AV) (c6:AV) (c7:AV) (c8:AV) (c9:AV) (c10:AV) (c11:AV) (a0:AV) (P:Hp->(Hp->Af)->Af) (Q:Exit->Hp->Af) (H:Hp):rdK (λcf=>OG (E L) R cf) 13 [(2,c2),(4,c4),(5,c5),(6,c6),(7,c7),(8,c8),(9,c9),(10,c10),(11,c11)] (Bl).2.1 [a0] (Bl).2.2.1 (Bl).2.2.2 H P Q=P H λa=>AF Ac c2 a λb=>Hf Ar 1 Ai 1 [(0,1,a0)] a λc d=>E9 Ar 1 Ai Ac b c d λe f=>E0 Ac c2 e f λg=>Q .normal g:=by kernel_rfl
def Lu:Y3N:= λL R a0 a1 a2 H K=>q3N 153 L R a0 a1 a2 H K _
def Ss:IX:= λL R a0 H K=>Ip 155 L R a0 H K _
def J8:IX:= λL R a0 H K=>Ip 156 L R a0 H K _
def Ph:IX:= λL R a0 H K=>Ip 160 L R a0 H K _
def A6l:Operand×Array Tmp×Code×Code:=XA8 (C3e) 0
def vY:IX:= λL R a0 H K=>Ip 161 L R a0 H K _
def G8:Jq:= λL R a0 a1 H K=>R.call JX [a0] H λj a=>Lg a0 λb=>Eh 1 b AU a λc=>E9 Bt 1 Bi Ai c a1 a λd e=>Lg a0 λf=>CV 1 f λg=>E0 AU g d e λh=>Bq Ai a1 λi=>K (AV.tup [i,(AV.v .nilIface)]) h
def kM:IX:= λL R a0 H K=>Ip 165 L R a0 H K _
def NS:IX:= λL R a0 H K=>Ip 168 L R a0 H K _
def eX:Ka Xl dT:= λL R K h ih d e f g a b=>Ap Ab .lss a g λi=>Az i (Iv FH f a Aa b λj=>Cr (E L) R j [d] b λk c=>Lg k λl=>AF Ab l c λm=>An R BP [m] c λn=>Ap Ai .add (WO [32]) n λo=>Ap Ai .add e o λp=>Ap Ab .add a (A0 1) λq=>ih d p f g q c) (h e b)
def eW:JZ Xl dT:=Kx z5N eX
def Pj:IX:= λL R a0 H K=>Ho AT a0 H λb c=>Aq (An R I5 [] c AK) λe=>Aq (CV 0 b AK) λh=>Aq (AF Ab h c AK) λf=>Aq (Wk .i64 f λm=>YV Bs false e m c AK) λi=>Ef (Bx C5 Bs c λv H=>some (v,H)) λg d=>Ef (E0 Bs g i d λH=>some (AV.v undef,H)) λag a=>QQ (Ba (An R I5 [] d AK) e) (QQ (Ba (AF Ab h d AK) f) (QQ (Ba (Wk .i64 f λn=>YV Bs false e n d AK) i) (Eh 0 g Ai a λj=>Eh 0 b Ab a λo=>Ap Ab .eql o (A0 1) λp=>Az p (Eh 3 b Ay a λq=>An R Ju [q] a λk=>Cx k 0 λr=>Cx k 1 λah=>Ap Ai .add j (WO [32]) λs=>Eh 1 b A3 a λt=>An R II [t] a λu=>Ap Ai .add s u λw=>Ap Ai .add w (WO [32]) λx=>Ap Ai .add x r λy=>K y a) (jn (λz aa=>K z aa) λab=>Eh 1 g FH a λl=>Bq FH l λac=>jn (λad ae=>ab ad ae) λaf=>eW L R K af L b j l ac (A0 0) a))))
def FN:Ka (Hp->Af) QL:= λL R K h ih f c d a b=>AF AU c b λi=>Bq AU i λj=>Ap Ab .lss a j λk=>Az k (Aq (AF Ab d b AK) λl=>Aq (AF AU c b AK) λm=>Aq (Ee AU m (some a) none none AK) λn=>Aq (Bq AU n AK) λo=>Aq (eMM true l o AK) λg=>AF AU c b λp=>Ap Ab .add a g λq=>Ap Ab .add a g λr=>Ee AU p (some a) (some q) (some r) λs=>Cr (E L) R f [s] b λt e=>Mg .not t λu=>Az u (K (AV.tup []) e) (AF Ab d e λv=>Ap Ab .add a v λw=>ih f c d w e)) (h b)
def FM:JZ (Hp->Af) QL:=Kx uY FN
theorem Mt:Ld FM FN:= λ_ _ _ _ _=>rfl
def Gc:Y3N:= λL R a0 a1 a2 H K=>jn (λa=>K (AV.tup []) a) λb=>FM L R K b L a0 a1 a2 (A0 0) H
def Ng:Ka Xl QL:= λL R K f ih g b c h a=>Ap Ab .lss c (A0 64) λi=>Az i (Aq (Ap Ab .sub c (A0 15) AK) λj=>OB Ck b j Ak a λd=>Aq (Ap Ab .sub c (A0 2) AK) λk=>OB Ck b k Ak a λe=>Aq (Ap Ab .sub c (A0 16) AK) λl=>OB Ck b l Ak a λm=>Aq (Yr 1 Ab 2 [(0,1,(A0 7)),(1,1,(A0 18))] AK) λn=>Aq (An R EI [d,n] a AK) λo=>Aq (Ap Ak .shr d (AV.v (.int .u64 3)) AK) λp=>Aq (Ap Ak .xor o p AK) λq=>Aq (Ap Ak .add m q AK) λr=>Aq (Ap Ab .sub c (A0 7) AK) λs=>OB Ck b s Ak a λt=>Aq (Ap Ak .add r t AK) λu=>Aq (Yr 1 Ab 2 [(0,1,(A0 17)),(1,1,(A0 19))] AK) λw=>Aq (An R EI [e,w] a AK) λx=>Aq (Ap Ak .shr e (AV.v (.int .u64 10)) AK) λy=>Aq (Ap Ak .xor x y AK) λz=>Aq (Ap Ak .add u z AK) λaa=>Aq (Dw Ck b c AK) λab=>Ef (E0 Ak ab aa a λH=>some (AV.v undef,H)) λae ac=>Ap Ab .add c (A0 1) λad=>ih g b ad h ac) (f b a)
def Nc:JZ Xl QL:=Kx uY Ng
theorem Yt:Ld Nc Ng:= λ_ _ _ _ _=>rfl
def Nf:Ka Xk QL:= λL R K e ih b d f a c=>Ap Ab .lss a (A0 16) λg=>Az g (Aq (Ap Ab .mul (A0 4) a AK) λh=>OB AU b h Bi c λi=>Aq (Jc Bi Ak i AK) λj=>Aq (Ap Ak .shl j (AV.v (.int .u64 24)) AK) λk=>Aq (Ap Ab .mul (A0 4) a AK) λl=>Aq (Ap Ab .add l (A0 1) AK) λm=>OB AU b m Bi c λn=>Aq (Jc Bi Ak n AK) λo=>Aq (Ap Ak .shl o (AV.v (.int .u64 16)) AK) λp=>Aq (Ap Ak .or k p AK) λq=>Aq (Ap Ab .mul (A0 4) a AK) λr=>Aq (Ap Ab .add r (A0 2) AK) λs=>OB AU b s Bi c λt=>Aq (Jc Bi Ak t AK) λu=>Aq (Ap Ak .shl u (AV.v (.int .u64 8)) AK) λw=>Aq (Ap Ak .or q w AK) λx=>Aq (Ap Ab .mul (A0 4) a AK) λy=>Aq (Ap Ab .add y (A0 3) AK) λz=>OB AU b z Bi c λaa=>Aq (Jc Bi Ak aa AK) λab=>Aq (Ap Ak .or x ab AK) λac=>Aq (Dw Ck d a AK) λad=>Ef (E0 Ak ad ac c λH=>some (AV.v undef,H)) λag ae=>Ap Ab .add a (A0 1) λaf=>ih b d f af ae) (e b d a c)
def Nb:JZ Xk QL:=Kx uY Nf
theorem Ys:Ld Nb Nf:= λ_ _ _ _ _=>rfl
def Oc:IX:= λL R a0 H K=>Bx De Ck H λd e=>jn (λf g h i=>jn (λa b=>AF Ck a b λj=>E0 Ck a j b λc=>AF Ck a c λk=>K k c) λl=>jn (λm n=>l m n) λo=>Nc L R K o L f g (A0 16) h i) λp=>jn (λq r s t=>p q r s t) λu=>Nb L R K u L a0 d AV.dk (A0 0) e
def QD:Ka Xl dT:= λL R K g ih c d e f b a=>Ap Ab .lss b f λh=>Az h (Iv B4 e b Ab a λi=>Mg .neg i λj=>An R Hl [c,j] a λk=>Ap Ak .xor d k λl=>Ap Ab .add b (A0 1) λm=>ih c l e f m a) (g d a)
def QC:JZ Xl dT:=Kx z5N QD
theorem iE:Ld QC QD:= λ_ _ _ _ _=>rfl
def So:Jq:= λL R a0 a1 H K=>jn (λa b=>K a b) λc=>Bq B4 a1 λd=>jn (λe f=>c e f) λg=>QC L R K g L a0 (AV.v (.int .u32 0)) a1 d (A0 0) H
def wG:IX:= λL R a0 H K=>Ip 173 L R a0 H K _
def oE:Jq:= λL R a0 a1 H K=>Lo 174 L R a0 a1 H K _
def A0X:Jq:= λL R a0 a1 H K=>Lo 176 L R a0 a1 H K _
def A0Y:Jq:= λL R a0 a1 H K=>Lo 177 L R a0 a1 H K _
def I':Jq:= λL R a0 a1 H K=>Lo 178 L R a0 a1 H K _
def wB:IX:= λL R a0 H K=>Ip 182 L R a0 H K _
def A0W:Jq:= λL R a0 a1 H K=>Lo 183 L R a0 a1 H K _
def Sb:Y3N:= λL R a0 a1 a2 H K=>q3N 184 L R a0 a1 a2 H K _
def sS:IX:= λL R a0 H K=>Ip 188 L R a0 H K _
def oA:Jq:= λL R a0 a1 H K=>Lo 189 L R a0 a1 H K _
def RI:Ka Us Xk:= λL R K n ih b e c a=>Eh 2 b Ax a λo=>Bq Ax o λp=>Ap Ab .lss c p λq=>Az q (Aq (AF AR b a AK) λf=>Aq (CV 2 b AK) λj=>Aq (AF Ax j a AK) λk=>Aq (Dw Ax k c AK) λl=>Aq (AF AN l a AK) λg=>Aq (An R CC [f,g,c,e] a AK) λh=>Aq (Cx h 0 AK) λr=>Aq (Cx h 1 AK) λs=>Ef (Bx A6 Ay a λv H=>some (v,H)) λm d=>Ef (E0 Ay m r d λH=>some (AV.v undef,H)) λab i=>QQ (Ba (AF AR b d AK) f) (QQ (Ba (AF Ax j d AK) k) (QQ (Ba (AF AN l d AK) g) (QQ (Ba (An R CC [f,g,c,e] d AK) h) (Ap Ab .neq s (A0 0) λt=>Az t (K (AV.tup [Ti,c,(A0 90)]) i) (AF Ay m i λu=>Hf A6 20 Ay 1 [(0,20,u)] i λw x=>E9 A6 20 Ay Al e w x λy z=>Ap Ab .add c (A0 1) λaa=>ih b y aa z)))))) (n b e a)
def RH:JZ Us Xk:=Kx z3N RI
theorem jR:Ld RH RI:= λ_ _ _ _ _=>rfl
def TQ:IX:= λL R a0 H K=>Ho Cv a0 H λd b=>AF AR d b λg=>An R Om [g] b λe=>Cx e 0 λh=>Cx e 1 λv=>Mg .not h λi=>Az i (K (AV.tup [Ti,(A0 (-1)),(A0 90)]) b) (jn (λf c a=>Aq (Bq Al c AK) λj=>Aq (Ap Ab .sub j (A0 1) AK) λk=>OB Al c k Ay a λl=>WY 3 f Ay a λm=>Aq (Xg L2 .neq l m AK) λn=>Az n (WY 2 f Ax a λo=>Aq (Bq Ax o AK) λp=>K (AV.tup [Ti,p,(A0 90)]) a) (K (AV.tup [c,(A0 0),(A0 0)]) a)) λq=>jn (λr s t=>q r s t) λu=>RH L R K u L d Ti (A0 0) b)
def wC:IX:= λL R a0 H K=>Ip 195 L R a0 H K _
def NQ:IX:= λL R a0 H K=>Ip 197 L R a0 H K _
def VR:IX:= λL R a0 H K=>Ip 199 L R a0 H K _
def D3:Ka (Hp->Af) Us:= λL R K e ih c a f=>Yp a f λg b=>Cx g 0 λh=>Az h (Zv a b λi=>Cx i 0 λj=>Cr (E L) R c [j] b λk d=>Mg .not k λl=>Az l (K (AV.tup []) d) (ih c a d)) (e b)
def D2:JZ (Hp->Af) Us:=Kx z2N D3
theorem Ji:Ld D2 D3:= λ_ _ _ _ _=>rfl
def DB:Jq:= λL R a0 a1 H K=>AF CA a1 H λa=>Wz a H λb c=>jn (λd=>K (AV.tup []) d) λe=>D2 L R K e L a0 b c
def CQ:Ka (Hp->Af) Us:= λL R K e ih c a f=>Yp a f λg b=>Cx g 0 λh=>Az h (Zv a b λi=>Cx i 0 λj=>Cr (E L) R c [j] b λk d=>Mg .not k λl=>Az l (K (AV.tup []) d) (ih c a d)) (e b)
def Cb:JZ (Hp->Af) Us:=Kx z2N CQ
theorem HG:Ld Cb CQ:= λ_ _ _ _ _=>rfl
def Da:Jq:= λL R a0 a1 H K=>AF Ah a1 H λa=>Wz a H λb c=>jn (λd=>K (AV.tup []) d) λe=>Cb L R K e L a0 b c
def kL:IX:= λL R a0 H K=>Ip 216 L R a0 H K _
def MY:IX:= λL R a0 H K=>Ip 221 L R a0 H K _
def HM:Ka (Hp->Af) dT:= λL R K ae ih i d j k b e=>Ap Ab .lss b k λaf=>Az af (Iv AA j b BS e λag=>Bx AY BS e λl ah=>E0 BS l ag ah λm=>AF BS l m λai=>Cr (E L) R d [ai] m λf n=>Ap Ab .lss f (A0 1) λg=>GT g n (some (f,n)) λaj o=>GT g o (Ap Ab .gtr aj (A0 1000000) (CX o)) λak p=>Ch g LW ak λc=>GT c p (some (b,p)) λal q=>GT c q (Ap Ab .gtr al (A0 0) (CX q)) λam r=>GT c r (some (am,r)) λa s=>Df a s (some (d,s)) λan t=>Df a t (some (i,t)) λao u=>Df a u (some (b,u)) λap w=>Df a w (Ap Ab .sub ap (A0 1) (CX w)) λaq x=>Df a x (eMM false aq (A0 0) (CX x)) λar y=>Df a y (Dw AA ao ar (CX y)) λau h=>Df a h (AF BS au h (CX h)) λav z=>Df a z (Cr (E L) R an [av] z λv H=>some (v,H)) λaw aa=>Df a aa (some (f,aa)) λax ab=>Df a ab (Ap Ab .geq aw ax (CX ab)) λay ac=>GT c ac (Ch a ay HQ (CX ac)) λaz ad=>Ch c LW az λa0=>Az a0 (K HQ ad) (Ap Ab .add b (A0 1) λa1=>ih i d j k a1 ad)) (ae e)
def HL:JZ (Hp->Af) dT:=Kx z5N HM
theorem OR:Ld HL HM:= λ_ _ _ _ _=>rfl
def Ik:Jq:= λL R a0 a1 H K=>jn (λa=>K LW a) λb=>Bq AA a0 λc=>jn (λd=>b d) λe=>HL L R K e L a0 a1 a0 c (A0 0) H
def Qx:IX:= λL R a0 H K=>Ip 225 L R a0 H K _
def DZ:Jq:= λL R a0 a1 H K=>Lo 226 L R a0 a1 H K _
def J9:IX:= λL R a0 H K=>An R Gn [a0] H λm=>R.call Ea [m] H λn c=>Bq Ac a0 λo=>An R FF [o,(A0 1),(A0 6)] c λb=>Df b c (some (a0,c)) λp e=>Df b e (some ((AV.fn (.func Eg) [] []),e)) λq d=>Df b d (An R B0 [p,q] d (CX d)) λr f=>Df b f (Mg .not r (CX f)) λs g=>Ch b s HQ λa=>Df a g (some (n,g)) λt h=>Df a h (R.call Cm [t] h λv H=>some (v,H)) λu i=>Df a i (Bq Ac u (CX i)) λw j=>Df a j (some (a0,j)) λx k=>Df a k (Bq Ac x (CX k)) λy l=>Df a l (Ap Ab .eql w y (CX l)) λz aa=>Ch a z HQ λab=>K ab aa
def vX:IX:= λL R a0 H K=>Ip 233 L R a0 H K _
def HC:IX:= λL R a0 H K=>Lg a0 λa=>Eh 0 a Cj H λb=>Rj Cj BG .eql b (AV.v (.pointer none)) λc=>Az c (A1z BG a0 H λd=>A1u A3q E1 d H λe=>Lg a0 λf=>CV 0 f λg=>E0 Cj g e H λh=>K (AV.tup []) h) (Lg a0 λi=>Eh 0 i Cj H λj=>Rj Cj BG .neq j a0 λk=>Az k (none) (K (AV.tup []) H))
def MQ:Ka Us dT:= λL R K j ih d b e f a c=>Ap Ab .lss a f λk=>Az k (Iv Ax e a AN c λl=>Bx AT AN c λg m=>E0 AN g l m λh=>AF AN g h λn=>R.call Jj [b,n] h λo i=>Mg .not o λp=>Az p (K (AV.tup [Ti,a,(A0 90)]) i) (Ap Ab .add a (A0 1) λq=>ih d b e f q i)) (j d b c)
def MP:JZ Us dT:=Kx z5N MQ
theorem XG:Ld MP MQ:= λ_ _ _ _ _=>rfl
def NU:IX:= λL R a0 H K=>Ho Cv a0 H λa k=>Eh 0 a Ab k λw=>Ap Ab .lss w (A0 1) λg=>dD g k 0 a Ab λx l=>GT g l (Ap Ab .gtr x (A0 1000000) (CX l)) λy z=>Ch g LW y λc=>dD c z 1 a Al λaa m=>GT c m (Bq Al aa (CX m)) λab n=>GT c n (Ap Ab .gtr ab (A0 6) (CX n)) λac ad=>Ch c LW ac λd=>dD d ad 1 a Al λae o=>GT d o (some ((AV.fn (.func GI) [] []),o)) λaf h=>GT d h (An R Dd [ae,af] h (CX h)) λag ah=>Ch d LW ag λe=>dD e ah 2 a Ax λai p=>GT e p (Bq Ax ai (CX p)) λaj q=>GT e q (Ap Ab .lss aj (A0 1) (CX q)) λak al=>Ch e LW ak λf=>dD f al 2 a Ax λam r=>GT f r (Bq Ax am (CX r)) λan s=>GT f s (Ap Ab .gtr an (A0 40) (CX s)) λao i=>Ch f LW ao λap=>Az ap (K (AV.tup [Ti,(A0 (-1)),(A0 90)]) i) (Eh 1 a Al i λaq=>R.call Oq [aq] i λar t=>jn (λu j b=>Aq (Lg j AK) λau=>WY 2 au Al b λav=>Aq (Lg j AK) λaw=>WY 2 aw Al b λax=>Aq (Bq Al ax AK) λay=>Aq (Ap Ab .sub ay (A0 1) AK) λaz=>OB Al av az Ay b λa1=>WY 3 u Ay b λa2=>Aq (Xg L2 .neq a1 a2 AK) λa3=>Az a3 (WY 2 u Ax b λa4=>Aq (Bq Ax a4 AK) λa5=>K (AV.tup [Ti,a5,(A0 90)]) b) (Lg j λa6=>Eh 2 a6 Al b λa7=>K (AV.tup [a7,(A0 0),(A0 0)]) b)) λa8=>Eh 2 a Ax t λv=>Bq Ax v λa9=>jn (λaA aB aC=>a8 aA aB aC) λaD=>MP L R K aD L a ar v a9 (A0 0) t)
def J6:Jq:= λL R a0 a1 H K=>Lo 239 L R a0 a1 H K _
def sR:IX:= λL R a0 H K=>Ip 240 L R a0 H K _
def wE:Jq:= λL R a0 a1 H K=>Lo 241 L R a0 a1 H K _
def oB:Jq:= λL R a0 a1 H K=>Lo 243 L R a0 a1 H K _
def oC:Jq:= λL R a0 a1 H K=>Lo 244 L R a0 a1 H K _
def wF:Jq:= λL R a0 a1 H K=>Lo 246 L R a0 a1 H K _
def A0U:Jq:= λL R a0 a1 H K=>Lo 247 L R a0 a1 H K _
def wD:Jq:= λL R a0 a1 H K=>Lo 248 L R a0 a1 H K _
def sQ:IX:= λL R a0 H K=>Ip 249 L R a0 H K _
def Qp:Ka Xl Us:= λL R K d ih b c a=>Eh 1 b Al a λe=>Bq Al e λf=>Ap Ab .lss c f λg=>Az g (Eh 1 b Al a λh=>Iv Al h c Ay a λi=>An R Fw [i] a λj=>Mg .not j λk=>Az k (WY 2 b Ax a λl=>Aq (Bq Ax l AK) λm=>Aq (Ap Ab .gtr m (A0 0) AK) λn=>K (AV.tup [HQ,n]) a) (Ap Ab .add c (A0 1) λo=>ih b o a)) (d b a)
def Qo:JZ Xl Us:=Kx z2N Qp
theorem eU:Ld Qo Qp:= λ_ _ _ _ _=>rfl
def Sc:IX:= λL R a0 H K=>Ho Cv a0 H λm n=>jn (λc d=>WY 0 c Ab d λo=>Aq (An R Dz [o,(A0 1),(A0 1000000)] d AK) λa=>Df a d (Aq (CV 1 c AK) (CX d)) λp e=>Df a e (Aq (AF Al p e AK) (CX e)) λq h=>Df a h (Aq (Bq Al q AK) (CX h)) λr i=>Df a i (Aq (Ap Ab .leq r (A0 6) AK) (CX i)) λs j=>Aq (Ch a s HQ AK) λb=>Df b j (Aq (CV 2 c AK) (CX j)) λt f=>Df b f (Aq (AF Ax t f AK) (CX f)) λu k=>Df b k (Aq (Bq Ax u AK) (CX k)) λv g=>Df b g (Aq (An R Dz [v,(A0 1),(A0 40)] g AK) (CX g)) λw l=>Aq (Ch b w HQ AK) λx=>WY 2 c Ax l λy=>Aq (Bq Ax y AK) λz=>Aq (Ap Ab .gtr z (A0 0) AK) λaa=>K (AV.tup [x,aa]) l) λab=>jn (λac ad=>ab ac ad) λae=>Qo L R K ae L m (A0 0) n
def oI:IX:= λL R a0 H K=>Ip 261 L R a0 H K _
def fL:Jq:= λL R a0 a1 H K=>Lo 262 L R a0 a1 H K _
def wM:Jq:= λL R a0 a1 H K=>Lo 263 L R a0 a1 H K _
end
section
attribute [local irreducible] Ef Aq Az Bx E9 yZ wY Yr Go.Abs.Ap Ho Hf BZ uA Jc A1I Zv Xg Rj Go.Abs.Cx CV B1a Dw iA AF Bq YV hC Yq eMM L4 Mh eMk Yp A1z Wz A1y wX Ee E0 A1u A73 A3I Go.Abs.Mg gdV jn Wk LQ Lg QQ mI Ch rdK XA8 mV Ba An KC undef UInt8.ofNat
def wN:Jq:= λL R a0 a1 H K=>Lo 264 L R a0 a1 H K _
def Ey:Ka (Hp->Af) QL:= λL R K g ih c d e a b=>Ap Ab .lss a e λh=>Az h (Iv AA c a BS b λi=>Cr (E L) R d [i] b λj f=>Az j (K a f) (Ap Ab .add a (A0 1) λk=>ih c d e k f)) (g b)
def Ew:JZ (Hp->Af) QL:=Kx uY Ey
theorem Ke:Ld Ew Ey:= λ_ _ _ _ _=>rfl
def E7:Jq:= λL R a0 a1 H K=>jn (λa=>K (A0 (-1)) a) λb=>Bq AA a0 λc=>jn (λd=>b d) λe=>Ew L R K e L a0 a1 c (A0 0) H
def Ij:IX:= λL R a0 H K=>Ip 268 L R a0 H K _
def FZ:IX:= λL R a0 H K=>Ip 269 L R a0 H K _
def ZG (L:Nat) (R:Rt) (K:KV) (ih:Us):Us:= λd a b=>AF Gx a b λh=>Ap Gx .lss h (AV.v (.int .u64 128)) λe=>AF Gx a b λi=>Ap Gx .and i (AV.v (.int .u64 127)) λj=>Jc Gx Bi j λk=>Cr (E L) R d [k,e] b λl f=>Mg .not l λg=>GT g f (some (e,f)) λm c=>Ch g LW m λn=>Az n (K (AV.tup []) c) (AF Gx a c λo=>Ap Gx .shr o (AV.v (.int .u64 7)) λp=>E0 Gx a p c λq=>ih d a q)
def ZF (L:Nat) (R:Rt) (K:KV) (n:Nat):Us:=lpN z2N (ZG L R K) n
def fE:Jq:= λL R a0 a1 H K=>ZF L R K L a0 a1 H
def KK:IX:= λL R a0 H K=>Ip 276 L R a0 H K _
def DY:Jq:= λL R a0 a1 H K=>Lo 277 L R a0 a1 H K _
def NR:IX:= λL R a0 H K=>Ip 278 L R a0 H K _
def Jg:Jq:= λL R a0 a1 H K=>Ho AT a1 H λe b=>Aq (Lg a0 AK) λx=>Aq (CV 0 x AK) λn=>Aq (AF DG n b AK) λf=>Aq (CV 0 e AK) λo=>Aq (AF Ab o b AK) λg=>Aq (Wk .i64 g λy=>YV Bs true f y b AK) λh=>Aq (Cx h 0 AK) λz=>Aq (Cx h 1 AK) λaa=>Ef (Bx C5 Bs b λv H=>some (v,H)) λi c=>Ef (E0 Bs i z c λH=>some (AV.v undef,H)) λaz p=>QQ (Ba (AF DG n c AK) f) (QQ (Ba (AF Ab o c AK) g) (QQ (Ba (Wk .i64 g λab=>YV Bs true f ab c AK) h) (Mg .not aa λa=>GT a p (some (a0,p)) λac j=>GT a j (AF Bs i j (CX j)) λad k=>GT a k (AF AN e k (CX k)) λae l=>GT a l (An R BQ [ac,ad,ae] l (CX l)) λaf q=>GT a q (Mg .not af (CX q)) λag d=>Ch a LW ag λah=>Az ah (K HQ d) (Eh 2 i Aa d λai=>AF AN e d λaj=>Cr (E L) R ai [a0,aj] d λr ak=>Cx r 0 λal=>Cx r 1 λam=>Bx A6 Ay ak λs an=>E0 Ay s al an λm=>Aq (Lg a0 AK) λao=>Aq (CV 2 ao AK) λt=>Aq (AF Al t m AK) λu=>Aq (AF Ay s m AK) λap=>Ef (Hf A6 20 Ay 1 [(0,20,ap)] m λv H=>some (v,H)) λaq w=>Ef (E9 A6 20 Ay Al u aq w λv H=>some (v,H)) λar au=>Aq (Lg a0 AK) λav=>Aq (CV 2 av AK) λaw=>Ef (E0 Al aw ar au λH=>some (AV.v undef,H)) λa2 ax=>QQ (Ba (AF Al t w AK) u) (Ap Ab .eql am (A0 0) λay=>K ay ax)))))
def GQ:Jq:= λL R a0 a1 H K=>Lo 282 L R a0 a1 H K _
def Jf:Jq:= λL R a0 a1 H K=>Lo 285 L R a0 a1 H K _
def Ge:Jq:= λL R a0 a1 H K=>Lo 286 L R a0 a1 H K _
def HD:Jq:= λL R a0 a1 H K=>Lo 287 L R a0 a1 H K _
def GP:Jq:= λL R a0 a1 H K=>Lo 288 L R a0 a1 H K _
def Iz:Jq:= λL R a0 a1 H K=>Ho AT a1 H λb l=>Bx A6 Ay l λc f=>Eh 23 b Ab f λm=>Ap Ab .eql m (A0 0) λd=>dD d f 23 b Ab λn g=>GT d g (Ap Ab .lss n (A0 (-4)) (CX g)) λo p=>Ch d LW o λe=>dD e p 23 b Ab λq h=>GT e h (Ap Ab .gtr q (A0 4) (CX h)) λr a=>Ch e LW r λs=>Az s (BZ Ay [] λt=>E0 Ay c t a λi=>AF Ay c i λu=>K (AV.tup [u,(A0 90)]) i) (Aq (Lg a0 AK) λw=>WY 2 w Al a λx=>WY 24 b Ab a λy=>OB Al x y Ay a λz=>WY 23 b Ab a λaa=>Aq (BZ Vr [(0,1,aa),(1,1,(A0 1))] AK) λab=>Aq (An R SE [z,ab] a AK) λj=>Aq (Cx j 0 AK) λac=>Aq (Cx j 1 AK) λad=>Ef (E0 Ay c ac a λH=>some (AV.v undef,H)) λaf k=>AF Ay c k λae=>K (AV.tup [ae,ad]) k)
def H_:IX:= λL R a0 H K=>Ip 291 L R a0 H K _
def fJ:IX:= λL R a0 H K=>Ip 296 L R a0 H K _
def sX:Jq:= λL R a0 a1 H K=>Lo 297 L R a0 a1 H K _
def pE:Operand×Array Tmp×Code×Code:=XA8 (C39) 0
def TY:Jq:= λL R a0 a1 H K=>Lo 298 L R a0 a1 H K _
def vS:Operand×Array Tmp×Code×Code:=XA8 (C38) 0
def Xd:Jq:= λL R a0 a1 H K=>Lo 299 L R a0 a1 H K _
def vR:Operand×Array Tmp×Code×Code:=XA8 (C37) 0
def Xc:IX:= λL R a0 H K=>Ip 300 L R a0 H K _
def VY:Jq:= λL R a0 a1 H K=>Lo 303 L R a0 a1 H K _
def wJ:Jq:= λL R a0 a1 H K=>Lo 304 L R a0 a1 H K _
def EF:Ka (Hp->Af) QL:= λL R K g ih c d e a b=>Ap Ab .lss a e λh=>Az h (Iv Ac d a Ai b λi=>Cr (E L) R c [i] b λj f=>Mg .not j λk=>Az k (K (AV.tup []) f) (Ap Ab .add a (A0 1) λl=>ih c d e l f)) (g b)
def EE:JZ (Hp->Af) QL:=Kx uY EF
theorem KE:Ld EE EF:= λ_ _ _ _ _=>rfl
def ES:Jq:= λL R a0 a1 H K=>AF Ac a1 H λa=>Bq Ac a λb=>jn (λc=>K (AV.tup []) c) λd=>EE L R K d L a0 a b (A0 0) H
def Ev:Ka (Hp->Af) QL:= λL R K g ih c d e a b=>Ap Ab .lss a e λh=>Az h (Iv Al c a Ay b λi=>Cr (E L) R d [i] b λj f=>Az j (K a f) (Ap Ab .add a (A0 1) λk=>ih c d e k f)) (g b)
def Eu:JZ (Hp->Af) QL:=Kx uY Ev
theorem Kd:Ld Eu Ev:= λ_ _ _ _ _=>rfl
def E6:Jq:= λL R a0 a1 H K=>jn (λa=>K (A0 (-1)) a) λb=>Bq Al a0 λc=>jn (λd=>b d) λe=>Eu L R K e L a0 a1 c (A0 0) H
def oH:IX:= λL R a0 H K=>Ip 323 L R a0 H K _
def LY:IX:= λL R a0 H K=>Ip 325 L R a0 H K _
def TX:IX:= λL R a0 H K=>Ip 326 L R a0 H K _
def Zm:Jq:= λL R a0 a1 H K=>Lo 327 L R a0 a1 H K _
def SY:Y3N:= λL R a0 a1 a2 H K=>Aq (AF Aa a1 H AK) λc=>Aq (Ap Ab .add a0 (A0 1) AK) λd=>Ef (Cr (E L) R c [d] H λv H=>some (v,H)) λe a=>Aq (AF B4 a2 a AK) λb=>Aq (An R Ui [e,b] a AK) λf=>Aq (Ap Ab .gtr f (A0 0) AK) λg=>QQ (Ba (AF B4 a2 H AK) b) (K g a)
def Pz:Ka Xl dT:= λL R K m ih f g h i b j=>Ap Ab .lss b f λc=>GT c j (some (g,j)) λn k=>GT c k (Ap Ab .neq n (A0 0) (CX k)) λo l=>Ch c LW o λp=>Az p (Cr (E L) R h [b] l λq d=>Ap Ab .add q g λa=>jn (λr s t=>Hf GZ 1 Ab 1 [(0,1,s)] t λu v=>E9 GZ 1 Ab B4 i u v λw x=>Ap Ab .add b (A0 1) λy=>ih f r h w y x) λe=>Ap Ab .lss a (A0 0) λz=>Az z (Ap Ab .add a (A0 10000) λaa=>e (A0 (-1)) aa d) (Ap Ab .geq a (A0 10000) λab=>Az ab (Ap Ab .quo a (A0 10000) λac=>Ap Ab .rem a (A0 10000) λad=>e ac ad d) (e (A0 0) a d))) (m i l)
def Py:JZ Xl dT:=Kx z5N Pz
def Qd:Y3N:= λL R a0 a1 a2 H K=>Ap Ab .add a0 (A0 1) λa=>eMk GZ 1 Ab (A0 0) a H λb c=>jn (λd e=>K d e) λf=>jn (λg h=>f g h) λi=>Py L R K i L a0 a1 a2 b (A0 0) c
def Zn:Jq:= λL R a0 a1 H K=>Lo 333 L R a0 a1 H K _
def Sk:Y3N:= λL R a0 a1 a2 H K=>q3N 334 L R a0 a1 a2 H K _
def oG:Jq:= λL R a0 a1 H K=>Lo 335 L R a0 a1 H K _
def fK:IX:= λL R a0 H K=>Ip 336 L R a0 H K _
def Kg:Ka (Hp->Af) Xk:= λL R K f ih c d a b=>Ap Ab .geq a (A0 0) λg=>Az g (AF B4 d b λh=>Iv B4 h a Ab b λi=>Cr (E L) R c [a,i] b λj e=>Mg .not j λk=>Az k (K (AV.tup []) e) (Ap Ab .sub a (A0 1) λl=>ih c d l e)) (f b)
def Kf:JZ (Hp->Af) Xk:=Kx z3N Kg
def K3:Jq:= λL R a0 a1 H K=>AF B4 a1 H λa=>Bq B4 a λb=>Ap Ab .sub b (A0 1) λc=>jn (λd=>K (AV.tup []) d) λe=>Kf L R K e L a0 a1 c H
def UQ:Y3N:= λL R a0 a1 a2 H K=>q3N 365 L R a0 a1 a2 H K _
def SU:Y3N:= λL R a0 a1 a2 H K=>q3N 368 L R a0 a1 a2 H K _
def XT:Y4N:= λL R a0 a1 a2 a3 H K=>Lg a0 λb=>Eh 0 b C! H λc=>Az c (K (WO []) H) (Cr (E L) R a1 [a2,a3] H λa d=>Cx a 0 λe=>Cx a 1 λf=>Ap Ab .neq f (A0 0) λg=>Lg a0 λh=>CV 0 h λi=>E0 C! i g d λj=>K e j)
def Sd:Y3N:= λL R a0 a1 a2 H K=>q3N 386 L R a0 a1 a2 H K _
def Pm:Jq:= λL R a0 a1 H K=>Lo 396 L R a0 a1 H K _
end
end Go.Proofs
end
noncomputable section
namespace Go.Abs
open Go.RowKit
section
variable {K:AV->Af} {q:Bool} {aZ bd:Code} {H:Hp} {N e m p r s:Nat} {to:Option (Option Code)} {x:Row} {i t:TI} {α:Type}
def A2S:∀(l:List α) (k:Nat) (a:α),k<l.length->splice l k [a]=l.set k a:=by
 intro l
 induction l with
 |nil=>intro k a h;simp at h
 |cons b l ih=>
  intro k a h;cases k with
  |zero=>simp[splice]
  |succ k=>
   have:=ih k a (by simpa using h);simp only[splice,List.length_singleton] at this⊢;simp[this]
def Vu (l vs:List α) (h:vs.length=l.length):splice l 0 vs=vs:=by simp[splice,h]
def B1 {ty:Nat} {cs:List AV} {K:KV} (hz:i.zero= .agg cs):Bx ty i H K=K (.ptr (Ao H) 0 0) ((Ao H,.cells true ty cs)::H):=by
 unfold Bx;rw[hz,CI,BV];rfl
def lQ {ty:Nat} {v:Value} {K:KV} (h1:AV.one (.v v)=true):Ho ty (.v v) H K=K (.ptr (Ao H) 0 0) ((Ao H,.cells true ty [.v v])::H):=by
 unfold Ho;rw[CI,FI,BV];have:(Bv (.v v)).all AV.one=true:=by simp[Bv,h1]
 rw[this];rfl
def B9O {ty n:Nat} {cs:List AV} {K:KV}:Ho ty (.list n cs) H K=K (.ptr (Ao H) 0 0) ((Ao H,.cells true ty [.list n cs])::H):=by
 unfold Ho;rw[CI,FI,BV];rfl
def Ei {ty:Nat} {cs:List AV} {K:KV} (h1:cs.all AV.one=true):Ho ty (.agg cs) H K=K (.ptr (Ao H) 0 0) ((Ao H,.cells true ty cs)::H):=by
 unfold Ho;rw[CI,FI,BV];have:(Bv (.agg cs)).all AV.one=true:=h1;rw[this];rfl
def AC {cs:List AV} (h:Aj H r=some x):Aj (upd H r (.cells q e cs)) r=some (.cells q e cs):=by
 rw[BB h];rfl
def Ed {cs:List AV} {v:AV} {K:Hp->Af} (c:Aj H s=some (.cells q e cs)) (d:p<cs.length) (hz:i.size=1) (hv:Bv v=[v]) (h1:AV.one v=true):E0 i (.ptr s p 0) v H K=K (upd H s (.cells q e (cs.set p v))):=by
 have b:E0 i (.ptr s p 0) v H K=IJ H s λx=>eS x λq e cs=>GW v λvs=>HI vs 0 λn=>ck (Nat.beq n i.size) (ck (Nu vs) (El (Nat.add p 0) vs cs λa=>LC H s (.cells q e a) K)):=rfl;rw[b,Bf c];show GW v _=_;rw[CI,hv,Co,hz,FI];have:[v].all AV.one=true:=by simp[h1]
 rw[this];show El p [v] cs _=_;rw[Il _ _ _ _ (by simp;omega),A2S _ _ _ d,Dh]
def Cc {cs vs:List AV} {K:Hp->Af} (d:Aj H s=some (.cells q e cs)) (b:vs.length=cs.length) (hz:i.size=cs.length) (h1:vs.all AV.one=true):E0 i (.ptr s 0 0) (.agg vs) H K=K (upd H s (.cells q e vs)):=by
 have c:E0 i (.ptr s 0 0) (.agg vs) H K=IJ H s λx=>eS x λq e cs=>GW (.agg vs) λvs=>HI vs 0 λn=>ck (Nat.beq n i.size) (ck (Nu vs) (El 0 vs cs λa=>LC H s (.cells q e a) K)):=rfl;rw[c,Bf d];show(GW (.agg vs) λvs=>HI vs 0 λn=>ck (Nat.beq n i.size) (ck (Nu vs) (El 0 vs cs λa=>LC H s (.cells q e a) K)))=_;have hc:Bv (.agg vs)=vs:=rfl;rw[CI,hc,Co,hz,FI,h1,b,JQ,mK];show El 0 vs cs _=_;rw[Il _ _ _ _ (by omega),Vu _ _ b,Dh]
def Bu {cs:List AV} (h:t.d.isAgg=true) (hz:t.size=cs.length) (a:Aj H r=some (.cells q e cs)):AF t (.ptr r 0 0) H K=K (.agg cs):=by
 have:AF t (.ptr r 0 0) H K=IJ H r λx=>JV x λ_ cs=>@Bool.rec (λ_=>Af) (hdK (Di 0 cs) K) (E8 t.size (Di 0 cs) λc=>K (.agg c)) t.d.isAgg:=rfl;rw[this,h,Bf a];show E8 t.size (Di 0 cs) _=_;rw[C6,pM,hz,KA _ _ _ (by omega),vB]
def AP {cs:List AV} (h:t.d.isAgg=false) (b:Aj H r=some (.cells q e cs)) (a:p<cs.length):AF t (.ptr r p 0) H K=K (cs.getD p .dk):=by
 have:AF t (.ptr r p 0) H K=IJ H r λx=>JV x λ_ cs=>@Bool.rec (λ_=>Af) (hdK (Di (Nat.add p 0) cs) K) (E8 t.size (Di (Nat.add p 0) cs) λc=>K (.agg c)) t.d.isAgg:=rfl;rw[this,h,Bf b];show hdK (Di p cs) K=_;rw[C6,vA a,Vl,K9 a];rfl
def EJ {z:Int} (k:Nat) (c:t.d= .array m e 1) (hz:z=k) (h:k<m):Dw t (.ptr s 0 0) (.v (.int .i64 z)) K=K (.ptr s k 0):=by
 subst hz;have f:Dw t (.ptr s 0 0) (.v (.int .i64 (k:Int))) K=iN (k:Int) λn=>ck (Nat.blt n m) (fN (Nat.add 0 (Nat.mul n 1)) λq=>K (.ptr s q 0)):=by
  obtain⟨a,b,d,z⟩:=t;simp only at c;subst c;rfl
 rw[f,JW,DT];have h2:Nat.add 0 (Nat.mul k 1)=k:=by show 0+k*1=k;omega
 have g:Nat.blt k m=true:=by rw[Wj];exact h
 rw[h2,g];rfl
def A5w {t j:TI} {cs:List AV} {z:Int} (k:Nat) (f:t.d= .array m e 1) (u:j.d.isAgg=false) (hz:z=k) (w:k<m) (hc:m<=cs.length):iA t j (.agg cs) (.v (.int .i64 z)) K=K (cs.getD k .dk):=by
 subst hz;have g:iA t j (.agg cs) (.v (.int .i64 (k:Int))) K=iN (k:Int) λn=>ck (Nat.blt n m) (mP j (Di (Nat.mul n 1) cs) K):=by
  obtain⟨a,b,d,z⟩:=t;simp only at f;subst f;rfl
 rw[g,JW];have h2:Nat.mul k 1=k:=pL k;have h:Nat.blt k m=true:=by rw[Wj];exact w
 have c:k<cs.length:=by omega
 rw[h2,h,C6,vA c,Vl,K9 c];show mP j (cs[k]::cs.drop (k+1)) K=_;unfold mP;rw[u];rfl
def It {r p k:Nat}:Lg (.ptr r p k) K=K (.ptr r p k):=id rfl
theorem OT {R:Rt} {args:List AV} {t:Tm} {ps:Array Tmp} {K:KV} (f:Aj H r=some (.loop N t ps aZ bd (some none))) (g:xX N ps.toList=true):
 Nz R r args H K=rdK R.run N t ps args aZ bd H (λc d=>E2 c r true none d) (λe b=>match e with
  | .normal=>E2 b r false (some none) λa=>K (.v (.bool true)) a
  | .ret=>E2 b r false (some (some .ret)) λa=>K (.v (.bool false)) a
  | .exit id=>E2 b r false (some (some (.exit id))) λa=>K (.v (.bool false)) a
  | .goto l=>E2 b r false (some (some (.goto l))) λa=>K (.v (.bool false)) a
  |_=>none):=by
 unfold Nz;rw[Bf f];show ck (xX N ps.toList) _=_;rw[g];rfl
def Pb {t:Tm} {ps:Array Tmp} {K:Hp->Af} (a:Aj H r=some (.loop N t ps aZ bd (some none))):E2 H r true to K=K (upd H r (.loop N t ps aZ bd to)):=by
 unfold E2;rw[Bf a];show LC H r _ K=_;rw[Dh]
def OZ {t:Tm} {ps:Array Tmp} {K:Hp->Af} (a:Aj H r=some (.loop N t ps aZ bd none)):E2 H r false to K=K (upd H r (.loop N t ps aZ bd to)):=by
 unfold E2;rw[Bf a];show LC H r _ K=_;rw[Dh]
def XA1 {t:Tm} {ps:Array Tmp} (h:Aj H r=some x):Aj (upd H r (.loop N t ps aZ bd to)) r=some (.loop N t ps aZ bd to):=by
 rw[BB h];rfl
end
section
variable {a b:AV} {f:Nat} {P:Program} {α:Type}
def BT.allB (c:Nat->α->Bool):BT α->Bool
 | .leaf=>true
 | .node k v l r=>c k v&&(l.allB c&&r.allB c)
def B1Q {c:Nat->α->Bool} {p:Nat->α->Prop} (h:∀k v,c k v=true->p k v):∀{b:BT α},b.allB c=true->b.All p:=by
 intro b
 induction b with
 |leaf=>intro _;trivial
 |node k v l r d e=>
  intro hb;simp only[BT.allB,Kw] at hb;exact⟨h k v hb.1,d hb.2.1,e hb.2.2⟩
def A3d:TD->Bool
 | .slice _ 0=>true
 | .array _ _ 0=>true
 |_=>false
def A4u:AV->AV->Bool
 | .v (.int k n),.v (.int d e)=>decide (k=d)&&decide (n=e)
 | .v (.bool b),.v (.bool c)=>b==c
 | .v (.string s),.v (.string g)=>s.data.toList.isEmpty&&g.data.toList.isEmpty
 | .v (.slice none 0 0),.v (.slice none 0 0)=>true
 | .v (.pointer none),.v (.pointer none)=>true
 | .v (.map none),.v (.map none)=>true
 | .v .nilFunc,.v .nilFunc=>true
 | .v .nilIface,.v .nilIface=>true
 |_,_=>false
def jA:List AV->List AV->Bool
 |[],[]=>true
 |a::c,b::d=>A4u a b&&jA c d
 |_,_=>false
def zeq:AV->AV->Bool
 | .agg cs,.agg ds=>jA cs ds
 |a,b=>A4u a b
def mC (h:A4u a b=true):a=b:=by
 unfold A4u at h;split at h<;>simp at h<;>try rfl
 ·rw[h.1,h.2]
 ·rw[h]
 ·rename_i s c;obtain⟨⟨l⟩⟩:=s;obtain⟨⟨d⟩⟩:=c;simp at h;rw[h.1,h.2]
def zQ:∀{c d:List AV},jA c d=true->c=d:=by
 intro c
 induction c with
 |nil=>intro d h;cases d<;>simp[jA] at h⊢
 |cons a c ih=>
  intro d h;cases d with
  |nil=>simp[jA] at h
  |cons b d=>
   simp only[jA,Kw] at h;rw[mC h.1,ih h.2]
def A5R (h:zeq a b=true):a=b:=by
 unfold zeq at h;split at h
 ·rw[zQ h]
 ·exact mC h
def B6G:TD->TD->Bool
 | .int k,.int g=>decide (k=g)
 | .bool,.bool=>true
 | .string,.string=>true
 | .pointer e,.pointer c=>decide (e=c)
 | .slice e n,.slice c h=>decide (e=c)&&decide (n=h)
 | .array m e n,.array j c h=>decide (m=j)&&decide (e=c)&&decide (n=h)
 | .struct i,.struct d=>decide (i=d)
 | .map k e,.map g c=>decide (k=g)&&decide (e=c)
 | .func,.func=>true
 | .iface,.iface=>true
 | .other,.other=>true
 |_,_=>false
def A2N {a b:TD} (h:B6G a b=true):a=b:=by
 unfold B6G at h;split at h<;>simp at h<;>try rfl
 ·rw[h]
 ·rw[h]
 ·rw[h.1,h.2]
 ·rw[h.1.1,h.1.2,h.2]
 ·rw[h]
 ·rw[h.1,h.2]
def tiB (P:Program) (t:Nat) (i:TI):Bool:=
 match P.info? t with
 |some x=>match P.underlying t,x.zero with
  |some u,some z=>Nat.beq x.size i.size&&(Nat.beq x.bytes i.bytes&&(B6G (td P u) i.d&&(zeq (sF z) i.zero&& !A3d i.d)))
  |_,_=>false
 |none=>false
def TiR (P:Program) (t:Nat) (i:TI):Prop:=TOk1 P t i/\A3d i.d=false
def B6F (t:Nat) (i:TI) (h:tiB P t i=true):TiR P t i:=by
 unfold tiB at h;split at h
 ·rename_i x c;split at h
  ·rename_i u z j hz;simp only[Kw,X!] at h;obtain⟨h1,h2,d,e,g⟩:=h;refine⟨⟨?_,?_,?_⟩,g⟩
   ·rw[c];simp[YM h1,YM h2]
   ·rw[c];simp[hz,A5R e]
   ·rw[j];simp[A2N d]
  ·cases h
 ·cases h
def FnR (P:Program) (f:Nat) (x:XFn):Prop:=(P.funcs[f]?).map (λfn=>(fn.body,fn.ntmps,fn.results.toList,fn.name== "runtime.NumGoroutine"))=some (some x.c,x.n,x.rs,false)
def FnR.ex {x:XFn} (h:FnR P f x):∃fn,P.funcs[f]?=some fn/\fn.body=some x.c/\fn.ntmps=x.n/\fn.results.toList=x.rs/\(fn.name== "runtime.NumGoroutine")=false:=by
 unfold FnR at h;cases d:P.funcs[f]? with
 |none=>rw[d] at h;simp at h
 |some fn=>
  rw[d] at h;simp only[xZ,l0z,Prod.mk.injEq] at h;exact⟨fn,rfl,h.1,h.2.1,h.2.2.1,h.2.2.2⟩
def DrR (E:XE) (_:Nat) (x:XFn):Prop:=SJ (rO E ⟨false,x.lv,x.fz,x.n,x.rc⟩) x.c=true
def eqR (P:Program) (t:Nat) (ks:List LK):Prop:=leaves P 6 t=some (true,ks)/\P.eqGuardType P.depth t=false
def glR (_:Nat) (cs:List AV):Prop:=cs.all isV=true
def C1Y (P:Program) (l:Lie):Prop:=liesAt P P.depth l.1 (l.2.1/P.cellsOf l.1) l.2.2.1 l.2.2.2 1=true/\(P.info? l.2.2.2).isSome=true
def C0H {E:XE} (d:E.ty.All (TiR P)) (m:E.T=E.ty.get) (c:P.follows .mixedOrders=true) (k:E.gl.All glR) (y:E.ft.All (FnR P)) (w:E.ft.All (DrR E)) (he:E.eqt.All (eqR P)) (A:∀l∈E.lie,C1Y P l) (B:P.underlying E.up=some .unsafePointer) (hn:∀f,E.ne f=true->iR P f):XE.Ok rO E P where
 ty:= λt i h=>(d.get (by rw[m] at h;exact h)).1
 pos:= λt i e p h j q=>by
  have:=(d.get (by rw[m] at h;exact h)).2;subst q;rcases j with j|⟨n,j⟩<;>(rw[j] at this;simp[A3d] at this)
 mix:=c
 gl:= λg cs h=>k.get h
 fn:= λf x h=>by
  obtain⟨fn,h1,h2,r,s,v⟩:=(y.get h).ex;exact⟨fn,h1,h2,r,s,v,w.get h⟩
 eq:= λt ks h=>⟨(he.get h).1,(he.get h).2⟩
 lie:= λe n o u h=>A _ h
 up:= λ_=>B
 ne:=hn
def L_ {fn:Func} (g:P.funcs[f]?=some fn) (d:(fn.name== "runtime.NumGoroutine")=false) (hb:fn.body.isNone=true) (hn:Extern.findNext fn=none) (he:Extern.find fn=some Extern.AbiNoEscape.same):iR P f:=by
 intro x w;have:Extern.AbiNoEscape.same #[x]=pure x:=rfl;have c:¬fn.name= "runtime.NumGoroutine" :=by simpa using d
 have e:fn.body=none:=by simpa using hb
 simp[callFunc,g,c,e,hn,he,mark,this];rfl
end
end Go.Abs
end
