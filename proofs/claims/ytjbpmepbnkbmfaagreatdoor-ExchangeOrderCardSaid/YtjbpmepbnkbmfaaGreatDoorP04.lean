import Derived.KernelRfl
import Derived.Test.YtjbpmepbnkbmfaaGreatDoorP03
set_option linter.all false
set_option maxHeartbeats 0
noncomputable section
namespace Go.Proofs
open Go.Abs
set_option maxRecDepth 100000
section
attribute [local irreducible] Ei Ax A2 Bx E0 K? zF Z6 Go.Abs.Aq FV GF Cb wI Jk A2K eA Vg RN Go.Abs.C9 CI A0l D4 kG AE Ba Ye kC Zy eMM Ld Mg eMk Zx A2A XP A2z zD D3 DE A2v A8i A4Q Go.Abs.MJ gdV jn XB Kk LG RQ oU Cj rdK XW pH Bj Ap I3 undef UInt8.ofNat
def KG:JE gJ gJ:=λL R K aa ih h i j k l m n o p q r e s t u v a w x b c d=>DN 31 b Ac d λab=>Ba Ac ab λac=>Aq Ad .lss c ac λad=>A2 ad (Fg a d (some (e,d)) λae af=>OV a af 31 b Ac λag y=>Fg a y (some (c,y)) λah z=>Fg a z (D4 Ac ag ah (Dq z)) λai f=>Fg a f (AE Ai ai f (Dq f)) λaj g=>Fg a g (Ap R J7 [ae,aj] g (Dq g)) λak al=>Cj a Ks ak λam=>Aq Ad .add c (A4 1) λan=>ih h i j k l m n o p q r e s t u v am w x b an al) (aa h i j k l m n o p q r e s t u v a w x b c d)
def I8:JD gJ gJ:=JV A9a KG
def UY:Kr I8 KG:=λ_ _ _ _ _=>rfl
def KH:JE gJ gJ:=λL R K w ih e f g h d i j k l m n o p q r s t a b x y c=>Ba Ac a λz=>Aq Ad .lss b z λaa=>A2 aa (jn (λab ac ad ae af ag ah ai aj ak al am an ao ap aq ar au av aw ax ay=>Aq Ad .add av (A4 1) λaz=>ih ab ac ad ae af ag ah ai aj ak al am an ao ap aq ar au az aw ax ay) λa0=>jn (λa1 a2 a3 a4 a5 a6 a7 a8 a9 aA aB aC aD aE aF aG aH aI aJ aK aL aM=>a0 a1 a2 a3 a4 a5 a6 a7 a8 a9 aA aB aC aD aE aF aG aH aI aJ aK aL aM) λaN=>Ia Ac a b Ai c λaO=>Ap R RI [d,aO] c λu=>C9 u 0 λaP=>C9 u 1 λbp=>Bx Ab Ae c λv aQ=>DE Ae v aP aQ λaR=>jn (λaS aT aU aV aW aX aY aZ ba bb bc bd be bf bg bh bi bj bk bl bm bn=>aN aS aT aU aV aW aX aY aZ ba bb bc bd be bf bg bh bi bj bk bl bm bn) λbo=>I8 L R K bo L e f g h d i j k l m n o p q r s t a b v (A4 0) aR) (w e f g h d i j k l m n o p q r s t a b x y c)
def KC:JD gJ gJ:=JV A9a KH
def UZ:Kr KC KH:=λ_ _ _ _ _=>rfl
def KI:JE F6N gJ:=λL R K aa ih ab ac k ad b ae af ag l m n ah o p d bl bm bn bo ai aj q=>Ba Am b λak=>Aq Ad .lss d ak λe=>D5 e q (some (p,q)) λal r=>D5 e r (Aq Ad .eql al (A4 0) (Dq r)) λam c=>Cj e am FW λan=>A2 an (Ia Am b d Ae c λao=>Ap R FK [ao] c λf=>R.call Pj [b,f] c λap aq=>GF Au 1 Ai 1 [(0,1,f)] aq λar au=>E0 Au 1 Ai Ac ap ar au λav aw=>jn (λax ay az a0 a1 a2 a3 a4 a5 a6 s a7 t a8 a9 g h aA aB aC aD i=>Ap R J7 [t,g] i λaE=>Aq Wn .neq h aE λa=>Fg a i (some (h,i)) λaF u=>Fg a u (some (s,u)) λaG w=>Fg a w (R.call QN [aG] w λv H=>some (v,H)) λaH x=>Fg a x (some (g,x)) λaI j=>Fg a j (Ap R J7 [aH,aI] j (Dq j)) λaJ y=>Fg a y (Aq Wn .eql aF aJ (Dq y)) λaK z=>Cj a Ks aK λaL=>A2 aL (K FW z) (Aq Ad .add a9 (A4 1) λaM=>ih ax ay az a0 a1 a2 a3 a4 a5 a6 s a7 t a8 aM g h aA aB aC aD z)) λaN=>jn (λaO aP aQ aR aS aT aU aV aW aX aY aZ ba bb bc bd be bf bg bh bi bj=>aN aO aP aQ aR aS aT aU aV aW aX aY aZ ba bb bc bd be bf bg bh bi bj) λbk=>KC L R K bk L ab ac k ad b ae af ag l m n ah o p d f FW av (A4 0) ai aj aw) (aa k b l m n o c)
def KD:JD F6N gJ:=JV A9a KI
def Va:Kr KD KI:=λ_ _ _ _ _=>rfl
def KF:JE C58 gJ:=λL R K z ih g d h i j k a c aa ab ac ad ae af ag l m n o p q r=>Ba Bi d λah=>Aq Ad .lss c ah λf=>D5 f r (some (c,r)) λai s=>D5 f s (Aq Ad .lss ai (A4 20) (Dq s)) λaj t=>Cj f aj FW λe=>D5 e t (some (a,t)) λak u=>D5 e u (Ba Am ak (Dq u)) λal w=>D5 e w (Aq Ad .gtr al (A4 0) (Dq w)) λam b=>Cj e am FW λan=>A2 an (Ia Bi d c Ad b λao=>Ba Am a λap=>Ap R IC [ao,ap] b λx=>Ia Bi d c Ad b λaq=>Aq Ad .quo aq (A4 8) λar=>Ba Am a λau=>Ap R IC [ar,au] b λy=>Kx Am a y Ae b λav=>Kx Am a x Ae b λaw=>Ax (D4 Am a x AS) λax=>Ei (DE Ae ax av b λH=>some (AV.v undef,H)) λa2 ay=>Ax (D4 Am a y AS) λaz=>Ei (DE Ae az aw ay λH=>some (AV.v undef,H)) λa3 a0=>Aq Ad .add c (A4 1) λa1=>ih g d h i j k a a1 aa ab ac ad ae af ag l m n o p q a0) (z g d h i j k a c l m n o p q b)
def KB:JD C58 gJ:=JV A9a KF
def UX:Kr KB KF:=λ_ _ _ _ _=>rfl
def KE:JE C57 gJ:=λL R K v ih d f g c e a w x h i j k l m n o p q r s t b=>Ba Am c λy=>Aq Ad .lss a y λz=>A2 z (jn (λaa ab=>Aq Ad .add a (A4 1) λac=>ih d f g c aa ac w x h i j k l m n o p q r s t ab) λad=>jn (λae af=>ad ae af) λu=>Ap R IC [d,(A4 256)] b λag=>Aq Ad .shr ag a λah=>Aq Ad .rem ah (A4 2) λai=>Aq Ad .eql ai (A4 1) λaj=>A2 aj (Ia Am c a Ae b λak=>GF Ab 68 Ae 1 [(0,68,ak)] b λal am=>E0 Ab 68 Ae Am e al am λan ao=>u an ao) (u e b)) (v d f g c e a h i j k l m n o p q r s t b)
def KA:JD C57 gJ:=JV A9a KE
def UW:Kr KA KE:=λ_ _ _ _ _=>rfl
def Lv:Y3N:=λL R a0 a1 a2 H K=>Ap R RH [] H λau=>Ap R XK [a0] H λav=>jn (λaw ax ay az a3 a4 a5 a6 a7 a8 a9 aA aB aC aD aE aF aG aH aI=>zE a3 aI λp aJ=>GF Ab 68 Ae 0 [] aJ λaK aL=>E0 Ab 68 Ae Am aK p aL λaM aN=>jn (λaO aP aQ aR c aS aT aU aV aW aX aY aZ ba bb=>zE aT bb λq bc=>R.call Ko [c,(A4 (-1))] bc λr bd=>C9 r 0 λbe=>C9 r 1 λbf=>R.call Ko [q,(A4 1048575)] bd λs bg=>C9 s 0 λbh=>C9 s 1 λbi=>R.call Ko [c,(A4 1048575)] bg λt u=>C9 t 0 λv=>C9 t 1 λbj=>MJ .not bf λg=>Fg g u (some (bi,u)) λbk w=>Fg g w (MJ .not bk (Dq w)) λbl x=>Cj g Ks bl λh=>Fg h x (some (bj,x)) λbm y=>Fg h y (MJ .not bm (Dq y)) λbn d=>Cj h Ks bn λbo=>A2 bo (K FW d) (Ap R Jw [c] d λbp=>Ap R Cm [v] d λbq=>Ap R Li [c] d λz=>C9 z 0 λc5=>C9 z 1 λbr=>jn (λe bs bt aa ab ac ad=>D5 e ad (some (bt,ad)) λbu i=>D5 e i (I3 R Bt [bu] i (Dq i)) λbv ae=>D5 e ae (Ba Am bv (Dq ae)) λbw af=>D5 e af (Aq Ad .eql bw (A4 0) (Dq af)) λbx ag=>Cj e bx FW λb=>D5 b ag (some (aa,ag)) λbz j=>D5 b j (I3 R Bt [bz] j (Dq j)) λb0 ah=>D5 b ah (some (ab,ah)) λb1 k=>D5 b k (I3 R Bt [b1] k (Dq k)) λb2 l=>D5 b l (Ap R L9 [b0,b2] l (Dq l)) λb3 ai=>Cj b b3 FW λf=>D5 f ai (some (aa,ai)) λb4 m=>D5 f m (Ap R Cm [b4] m (Dq m)) λb5 aj=>D5 f aj (some (ac,aj)) λb6 n=>D5 f n (Ap R Dw [b5,b6] n (Dq n)) λb7 ak=>Cj f b7 FW λa=>D5 a ak (some (ab,ak)) λb8 o=>D5 a o (I3 R Bt [b8] o (Dq o)) λb9 al=>D5 a al (Ba Am b9 (Dq al)) λbA am=>D5 a am (some (ac,am)) λbB an=>D5 a an (Ba Ac bB (Dq an)) λbC ao=>D5 a ao (Aq Ad .add bA bC (Dq ao)) λbD ap=>D5 a ap (some (bs,ap)) λbE aq=>D5 a aq (Ba Am bE (Dq aq)) λbF ar=>D5 a ar (Aq Ad .eql bD bF (Dq ar)) λbG bH=>Cj a bG FW λbI=>K bI bH) λbJ=>jn (λbK bL bM bN bO bP bQ=>bJ bK bL bM bN bO bP bQ) λbR=>KD L R K bR L aO aP aQ aR c aS q aU be bh v bp bq br (A4 0) aV aW aX aY aZ ba d)) λbS=>jn (λbT bU bV bW bX bY bZ ca cb cc cd ce cf cg ch=>bS bT bU bV bW bX bY bZ ca cb cc cd ce cf cg ch) λci=>KB L R K ci L aw ax ay az p a4 aM (A4 0) a5 a6 a7 a8 a9 aA aB aC aD aE aF aG aH aN) λcj=>jn (λck cl cm cn co cp cq cr cs ct cu cv cw cx cy cz c0 c1 c2 c3=>cj ck cl cm cn co cp cq cr cs ct cu cv cw cx cy cz c0 c1 c2 c3) λc4=>KA L R K c4 L a1 a2 au av TH (A4 0) AV.dk AV.dk AV.dk AV.dk AV.dk AV.dk AV.dk AV.dk AV.dk AV.dk AV.dk AV.dk AV.dk AV.dk AV.dk H
def Xq:Y0N:=λL R H K=>Cb BB [] λbn=>Cb BB [] λbo=>Ap R IA [bn,bo,TH,TH] H λbp=>Bx Ab Ae H λn bq=>DE Ae n bp bq λo=>Cb BB [(0,1,(A4 1)),(1,1,(A4 0)),(2,1,(A4 1)),(3,1,(A4 0)),(4,1,(A4 0)),(5,1,(A4 0))] λbr=>Cb BB [(0,1,(A4 3)),(1,1,(A4 3)),(2,1,(A4 3)),(3,1,(A4 0)),(4,1,(A4 0)),(5,1,(A4 0))] λbs=>AE Ae n o λbt=>Ap R GY [bt] o λbu=>Z6 1 Ai 1 [(0,1,bu)] λbv=>Ap R IA [br,bs,TH,bv] o λbw=>Bx Ab Ae o λh bx=>DE Ae h bw bx λx=>AE Ae h x λbz=>AE Ae n x λb0=>Z6 68 Ae 2 [(0,68,bz),(68,68,b0)] λb1=>R.call Ko [b1,(A4 3)] x λay b2=>C9 ay 0 λp=>C9 ay 1 λb3=>R.call Pm [] b2 λa az=>MJ .not b3 λy=>Fg y az (some (p,az)) λb4 a0=>Fg y a0 (RN BP CZ .eql b4 (AV.v (.pointer none)) (Dq a0)) λb5 a1=>Cj y Ks b5 λz=>Fg z a1 (some (a,a1)) λb6 a2=>Fg z a2 (RN BP CZ .eql b6 (AV.v (.pointer none)) (Dq a2)) λb7 b8=>Cj z Ks b7 λq=>OV q b8 31 h Ac λb9 a3=>Fg q a3 (Ba Ac b9 (Dq a3)) λbA a4=>Fg q a4 (Aq Ad .neq bA (A4 1) (Dq a4)) λbB r=>Cj q Ks bB λbC=>A2 bC (K FW r) (AE Ae n r λbD=>AE Ae h r λbE=>Z6 68 Ae 2 [(0,68,bD),(68,68,bE)] λbF=>R.call QM [bF] r λi a5=>I3 R Do [p] a5 λbG=>Bx A5 AI a5 λj bH=>DE AI j bG bH λa6=>AE AI j a6 λbI=>R.call Cn [a,bI] a6 λs t=>Ax (AE AI j t AS) λbJ=>Ax (D3 Ac i (some (A4 1)) none none AS) λbK=>Ax (Cb AI [(0,1,(A4 1)),(1,1,bK)] AS) λbL=>Ax (Ap R Dc [bJ,bL] t AS) λbM=>Ax (MJ .not bM AS) λu=>Fg u t (some (s,t)) λbN a7=>Fg u a7 (Ax (Ba AT bN AS) (Dq a7)) λbO a8=>Fg u a8 (Ax (Aq Ad .neq bO (A4 1) AS) (Dq a8)) λbP a9=>Ax (Cj u Ks bP AS) λb=>Fg b a9 (some (s,a9)) λbQ aA=>Fg b aA (Ax (D4 AT bQ (A4 0) AS) (Dq aA)) λbR aa=>Fg b aa (Ax (AE AI bR aa AS) (Dq aa)) λbS aB=>Fg b aB (some (i,aB)) λbT aC=>Fg b aC (Ax (D3 Ac bT (some (A4 1)) none none AS) (Dq aC)) λbU aD=>Fg b aD (Ax (Cb AI [(0,1,(A4 2)),(1,1,bU)] AS) (Dq aD)) λbV ab=>Fg b ab (Ax (Ap R Dc [bS,bV] ab AS) (Dq ab)) λbW aE=>Fg b aE (Ax (MJ .not bW AS) (Dq aE)) λbX ac=>Ax (Cj b Ks bX AS) λbY=>A2 bY (K FW ac) (D4 AT s (A4 0) λbZ=>AE AI bZ ac λca=>R.call Cn [p,ca] ac λad aF=>Ax (Ba AT ad AS) λcb=>Ax (Aq Ad .neq cb (A4 1) AS) λc=>Fg c aF (some (ad,aF)) λcc aG=>Fg c aG (Ax (D4 AT cc (A4 0) AS) (Dq aG)) λcd ae=>Fg c ae (Ax (AE AI cd ae AS) (Dq ae)) λce af=>Fg c af (Ax (AE Ae h af AS) (Dq af)) λcf aH=>Fg c aH (Ax (Z6 68 Ae 1 [(0,68,cf)] AS) (Dq aH)) λcg aI=>Fg c aI (Ax (Cb AI [(0,1,(A4 3)),(2,1,cg)] AS) (Dq aI)) λch ag=>Fg c ag (Ax (Ap R Dc [ce,ch] ag AS) (Dq ag)) λci aJ=>Fg c aJ (Ax (MJ .not ci AS) (Dq aJ)) λcj ah=>Ax (Cj c Ks cj AS) λck=>A2 ck (K FW ah) (D4 AT ad (A4 0) λcl=>AE AI cl ah λcm=>R.call Cn [a,cm] ah λai aj=>Ax (I3 R Bt [a] aj AS) λcn=>Ax (Ba Am cn AS) λco=>Ax (Aq Ad .eql co (A4 0) AS) λf=>D5 f aj (some (a,aj)) λcp ak=>D5 f ak (Ax (Ap R Cm [cp] ak AS) (Dq ak)) λcq aK=>D5 f aK (some (i,aK)) λcr aL=>D5 f aL (Ax (D3 Ac cr (some (A4 1)) none none AS) (Dq aL)) λcs al=>D5 f al (Ax (Ap R Dw [cq,cs] al AS) (Dq al)) λct aM=>Ax (Cj f ct FW AS) λw=>Ax (Ba AT ai AS) λcu=>Ax (Aq Ad .neq cu (A4 1) AS) λd=>Fg d aM (some (ai,aM)) λcv aN=>Fg d aN (Ax (D4 AT cv (A4 0) AS) (Dq aN)) λcw am=>Fg d am (Ax (AE AI cw am AS) (Dq am)) λcx aO=>Fg d aO (some (i,aO)) λcy aP=>Fg d aP (Ax (D3 Ac cy none (some (A4 1)) none AS) (Dq aP)) λcz aQ=>Fg d aQ (Ax (Cb AI [(0,1,(A4 2)),(1,1,cz)] AS) (Dq aQ)) λc0 an=>Fg d an (Ax (Ap R Dc [cx,c0] an AS) (Dq an)) λc1 aR=>Fg d aR (Ax (MJ .not c1 AS) (Dq aR)) λc2 ao=>Ax (Cj d Ks c2 AS) λc3=>A2 c3 (K FW ao) (D4 AT ai (A4 0) λc4=>AE AI c4 ao λc5=>R.call Cn [p,c5] ao λaS ap=>Ba AT aS λc6=>Aq Ad .neq c6 (A4 1) λc7=>A2 c7 (K FW ap) (D4 AT aS (A4 0) λc8=>AE AI c8 ap λc9=>R.call Cn [a,c9] ap λcA aT=>D5 w aT (some (cA,aT)) λcB aU=>D5 w aU (Ax (Ba AT cB AS) (Dq aU)) λcC aV=>D5 w aV (Ax (Aq Ad .eql cC (A4 0) AS) (Dq aV)) λcD aW=>Ax (Cj w cD FW AS) λk=>D5 k aW (some (a,aW)) λcE aX=>D5 k aX (R.call QN [cE] aX λv H=>some (v,H)) λcF aY=>D5 k aY (some (i,aY)) λcG aq=>D5 k aq (Ax (Ap R Dw [cF,cG] aq AS) (Dq aq)) λcH aZ=>Ax (Cj k cH FW AS) λl=>D5 l aZ (some (a,aZ)) λcI ar=>D5 l ar (Ax (Ap R Cm [cI] ar AS) (Dq ar)) λcJ ba=>D5 l ba (Ax (Ba Ac cJ AS) (Dq ba)) λcK bb=>D5 l bb (Ax (Aq Ad .eql cK (A4 0) AS) (Dq bb)) λcL bc=>Ax (Cj l cL FW AS) λg=>D5 g bc (some (a,bc)) λcM au=>D5 g au (Ax (AE AI j au AS) (Dq au)) λcN bd=>D5 g bd (R.call Cn [cM,cN] bd λv H=>some (v,H)) λcO be=>D5 g be (Ax (Ba AT cO AS) (Dq be)) λcP bf=>D5 g bf (Ax (Aq Ad .eql cP (A4 0) AS) (Dq bf)) λcQ bg=>Ax (Cj g cQ FW AS) λm=>D5 m bg (some (a,bg)) λcR bh=>D5 m bh (Ax (Cb Ae [] AS) (Dq bh)) λcS bi=>D5 m bi (R.call Fc [cR,cS] bi λv H=>some (v,H)) λcT bj=>D5 m bj (Ax (Aq Ad .eql cT (A4 280) AS) (Dq bj)) λcU av=>Ax (Cj m cU FW AS) λe=>D5 e av (Ax (AE AI j av AS) (Dq av)) λcV bk=>D5 e bk (some (s,bk)) λcW bl=>D5 e bl (Ax (D4 AT cW (A4 0) AS) (Dq bl)) λcX aw=>D5 e aw (Ax (AE AI cX aw AS) (Dq aw)) λcY ax=>D5 e ax (Ax (Ap R Dc [cV,cY] ax AS) (Dq ax)) λcZ bm=>D5 e bm (Ax (MJ .not cZ AS) (Dq bm)) λda db=>Ax (Cj e da FW AS) λdc=>K dc db)))))
def Ul:JE zH zH:=λL R K p ih g h b i e j f c k=>Aq Ad .lss c (A4 3) λd=>D5 d k (some (b,k)) λq l=>D5 d l (Ba Ac q (Dq l)) λr m=>D5 d m (Aq Ad .gtr r (A4 0) (Dq m)) λs a=>Cj d s FW λt=>A2 t (jn (λu v=>Aq Ad .add c (A4 1) λw=>ih g h b i e j u w v) λx=>jn (λy z=>x y z) λn=>D4 Cw e (A4 6) λaa=>AE Ad aa a λab=>Aq Ad .mul (A4 4) c λac=>Aq Ad .shr ab ac λad=>Ap R Mz [ad,(A4 16)] a λo=>Aq Ad .lss o (A4 14) λae=>A2 ae (Ba Ac b λaf=>Aq Ad .rem o af λag=>Ia Ac b ag Ai a λah=>GF Au 1 Ai 1 [(0,1,ah)] a λai aj=>E0 Au 1 Ai Ac f ai aj λak al=>n ak al) (n f a)) (p g h b i e j f c a)
def Uj:JD zH zH:=JV z8N Ul
def pK:Kr Uj Ul:=λ_ _ _ _ _=>rfl
def Um:JE Yg zH:=λL R K ah ih g t ai d bN bO bP bQ u=>Ba MQ g λaj=>Aq Ad .lss d aj λh=>D5 h u (some (d,u)) λak v=>D5 h v (Aq Ad .lss ak (A4 8) (Dq v)) λal i=>Cj h al FW λam=>A2 am (jn (λan ao ap aq ar au av aw ax=>Aq Ad .add aq (A4 1) λay=>ih an ao ap ay ar au av aw ax) λaz=>jn (λa0 a1 a2 a3 a4 a5 a6 a7 a8=>az a0 a1 a2 a3 a4 a5 a6 a7 a8) λw=>Ia MQ g d Cw i λa9=>Bx ZI Cw i λf aA=>DE Cw f a9 aA λj=>D4 Cw f (A4 0) λaB=>AE Ad aB j λaC=>jn (λaD aE=>jn (λx y k z a l m aa b=>D4 Cw a (A4 1) λaF=>AE Ad aF b λaG=>D4 Cw a (A4 2) λaH=>AE Ad aH b λaI=>D4 Cw a (A4 3) λaJ=>AE Ad aJ b λaK=>D4 Cw a (A4 4) λaL=>AE Ad aL b λaM=>D4 Cw a (A4 5) λaN=>AE Ad aN b λaO=>Cb BB [(0,1,l),(1,1,aG),(2,1,aI),(3,1,aK),(4,1,aM),(5,1,aO)] λaP=>D4 Cw a (A4 1) λaQ=>AE Ad aQ b λaR=>D4 Cw a (A4 2) λaS=>AE Ad aS b λaT=>D4 Cw a (A4 3) λaU=>AE Ad aU b λaV=>D4 Cw a (A4 4) λaW=>AE Ad aW b λaX=>D4 Cw a (A4 5) λaY=>AE Ad aY b λaZ=>D4 Cw a (A4 6) λba=>AE Ad ba b λbb=>Cb BB [(0,1,aR),(1,1,aT),(2,1,aV),(3,1,aX),(4,1,aZ),(5,1,bb)] λbc=>D4 Cw a (A4 3) λbd=>AE Ad bd b λbe=>D4 Cw a (A4 4) λbf=>AE Ad bf b λbg=>D4 Cw a (A4 5) λbh=>AE Ad bh b λbi=>D4 Cw a (A4 6) λbj=>AE Ad bj b λbk=>Cb CQ [(0,1,be),(1,1,bg),(2,1,bi),(3,1,bk)] λbl=>GF HX 4 CQ 1 [(0,4,bl)] b λbm bn=>R.call IA [aP,bc,bm,m] bn λbo bp=>Bx Ab Ae bp λn bq=>DE Ae n bo bq λe=>AE Ae n e λbr=>Ap R GY [br] e λo=>Ap R TY [k,o] e λab=>C9 ab 0 λbs=>C9 ab 1 λbR=>Aq Ai .neq o (XV []) λp=>D5 p e (some (bs,e)) λbt ac=>D5 p ac (MJ .not bt (Dq ac)) λbu q=>Cj p bu FW λbv=>A2 bv (AE Ae n q λbw=>GF Ab 68 Ae 1 [(0,68,bw)] q λbx bz=>E0 Ab 68 Ae Am y bx bz λb0 b1=>GF Au 1 Ai 1 [(0,1,o)] b1 λb2 b3=>E0 Au 1 Ai Ac k b2 b3 λb4 b5=>w x b0 b4 z a l m aa b5) (w x y k z a l m aa q)) λb6=>jn (λb7 b8 b9 bA bB bC bD bE bF=>b6 b7 b8 b9 bA bB bC bD bE bF) λbG=>Uj L R K bG L g t ai d f aD TH (A4 0) aE) λad=>Aq Ad .lss d (A4 2) λc=>D5 c j (D4 Cw f (A4 0) (Dq j)) λbH r=>D5 c r (AE Ad bH r (Dq r)) λbI ae=>D5 c ae (Aq Ad .quo bI (A4 3) (Dq ae)) λbJ s=>D5 c s (Ap R Mz [bJ,(A4 4)] s (Dq s)) λbK af=>D5 c af (Aq Ad .gtr bK (A4 0) (Dq af)) λbL ag=>Cj c bL FW λbM=>A2 bM (ad (A4 0) ag) (ad aC ag)) (ah t i)
def Uk:JD Yg zH:=JV z8N Um
def pL:Kr Uk Um:=λ_ _ _ _ _=>rfl
def WZ:Jc:=λL R a0 H K=>jn (λa b=>K a b) λc=>jn (λd e=>c d e) λf=>Uk L R K f L a0 TH TH (A4 0) AV.dk AV.dk AV.dk AV.dk H
def Xr:Jf:=λL R a0 a1 H K=>jn (λb c=>Aq Ad .rem b a1 λd=>K d c) λa=>Aq Ad .lss a0 (A4 0) λe=>A2 e (Aq Ad .add a0 (A4 1) λf=>MJ .neg f λg=>a g H) (a a0 H)
def Rj:JE Yg Q9:=λL R K n ih e g b c d=>Ba Am e λo=>Aq Ad .lss c o λp=>A2 p (Ap R IC [g,(A4 1048576)] d λq=>Aq Ad .shr q c λr=>Aq Ad .rem r (A4 2) λs=>Aq Ad .eql s (A4 1) λa=>D5 a d (some (b,d)) λt h=>D5 a h (some (e,h)) λu i=>D5 a i (some (c,i)) λw j=>D5 a j (D4 Am u w (Dq j)) λx f=>D5 a f (AE Ae x f (Dq f)) λy k=>D5 a k (R.call Fc [t,y] k λv H=>some (v,H)) λz l=>D5 a l (Aq Ad .neq z (A4 0) (Dq l)) λaa m=>Cj a aa FW λab=>A2 ab (K (AV.tup [b,FW]) m) (Aq Ad .add c (A4 1) λac=>ih e g b ac m)) (n b d)
def Rh:JD Yg Q9:=JV rI Rj
def jG:Kr Rh Rj:=λ_ _ _ _ _=>rfl
def SX:Jf:=λL R a0 a1 H K=>R.call Pm [] H λa b=>RN BP CZ .eql a (AV.v (.pointer none)) λc=>A2 c (K (AV.tup [a,FW]) b) (jn (λd e=>K (AV.tup [d,Ks]) e) λf=>jn (λg h=>f g h) λi=>Rh L R K i L a0 a1 a (A4 0) b)
def En:Operand×Array Tmp×Code×Code:=XW (c8) 0
def Rf:Jc:=λL R a0 H K=>Ap R IZ [a0] H λe=>C9 e 0 λi=>C9 e 1 λy=>Bx CK Aj H λb j=>DE Aj b i j λk=>Ld BH k λl m=>Bx BX CM m λa n=>DE CM a l n λc=>jn (λo f=>AE CM o f λp=>R.call GZ [p] f λq r=>K q r) λs=>AE Aj b c λt=>Ap R Fs [t] c λg=>jn (λu v=>s u v) λh=>pH R 27 g [(2,TH),(3,b),(5,a),(7,AV.dk),(15,g),(17,AV.dk),(18,AV.dk),(19,AV.dk),(20,AV.dk),(21,AV.dk),(22,AV.dk),(23,AV.dk),(24,AV.dk)] (En).2.1 (En).2.2.1 (En).2.2.2 c λw d=>oU w (h a d) (K TH d) (λx=>@Bool.rec (λ_=>Af) (none) (h a d) (Nat.beq x 0)) (λ_=>none)
def fD(L:Nat)(R:Rt)(c2:AV)(c3:AV)(c5:AV)(c7:AV)(c15:AV)(c17:AV)(c18:AV)(c19:AV)(c20:AV)(c21:AV)(c22:AV)(c23:AV)(c24:AV)(a0:AV)(a1:AV)(P:Hp->Ru->Af)(Q:Exit->Ru)(H:Hp):rdK (λcf=>MD (E L) R cf) 27 [(2,c2),(3,c3),(5,c5),(7,c7),(15,c15),(17,c17),(18,c18),(19,c19),(20,c20),(21,c21),(22,c22),(23,c23),(24,c24)] (En).2.1 [a0,a1] (En).2.2.1 (En).2.2.2 H P Q=P H λa=>jn (λc=>Q .normal c) λb=>AE Aj c3 a λd=>Ap R EA [d,a1] a λe=>MJ .not e λf=>A2 f (AE CM c5 a λg=>Cb BH [] λh=>Kk a1 λi=>Mg g i h a λj=>b j) (b a):=by kernel_rfl
def IV:Jc:=λL R a0 H K=>RN BP CZ .eql a0 (AV.v (.pointer none)) λc=>A2 c (K TH H) (R.call FO [a0] H λd e=>Bx Az Aj e λb f=>DE Aj b d f λa=>LG a0 λg=>DN 0 g Aj a λh=>Ap R C8 [h] a λi=>R.call D9 [i] a λj k=>R.call Bn [j,(AV.fn (.func Fb) [] [b])] k λl m=>K l m)
def EX:Operand×Array Tmp×Code×Code:=XW (c10) 0
def Tk:JE A5v A5v:=λL R K aj ih i j k b l m n f o p q r s t u v w x y z aa ab ac ad ae af ag g h c a=>Aq Ad .lss c h λak=>A2 ak (jn (λal am=>Aq Ad .add c (A4 1) λan=>ih i j k b l m n al o p q r s t u v w x y z aa ab ac ad ae af ag g h an am) λao=>jn (λap aq=>ao ap aq) λah=>Ia Ac g c Ai a λd=>AE Eb b a λai=>Kk d λar=>Ye Ad false ai ar a λau=>Aq Ad .sub au (A4 1) λav=>Kk d λaw=>Mg ai aw av a λe=>AE Eb b e λax=>Kk d λay=>Ye Ad false ax ay e λaz=>Aq Ad .eql az (A4 0) λa0=>A2 a0 (GF Au 1 Ai 1 [(0,1,d)] e λa1 a2=>E0 Au 1 Ai Ac f a1 a2 λa3 a4=>ah a3 a4) (ah f e)) (aj i j k b l m n f o p q r s t u v w x y z aa ab ac ad ae af ag g h c a)
def Ti:JD A5v A5v:=JV C2g Tk
def nS:Kr Ti Tk:=λ_ _ _ _ _=>rfl
def OU:JE Wj A5v:=λL R K j ih k l e m f n o c g p q r s t u v w x y z aa ab ac ad ae af ag b0 b1 b2 d=>Ba Ac c λah=>Aq Ad .gtr ah (A4 0) λai=>A2 ai (jn (λaj ak al am an ao ap aq ar au av aw ax ay az a0 a1 a2 a3 a4 a5 a6 a7 a8 a9 aA aB aC aD aE aF=>ih aj ak al am an ao ap aq ar au av aw ax ay az a0 a1 a2 a3 a4 a5 a6 a7 a8 a9 aA aB aC aD aE aF) λaG=>Ap R HO [c] d λaH=>Bx Au Ai d λa aI=>DE Ai a aH aI λaJ=>R.call Bn [c,(AV.fn (.func J8) [] [a])] aJ λaK h=>AE Ai a h λaL=>GF Au 1 Ai 1 [(0,1,aL)] h λaM aN=>E0 Au 1 Ai Ac g aM aN λaO b=>AE BL f b λaP=>AE Ai a b λaQ=>Kk aQ λaR=>Ye Ac false aP aR b λi=>Ba Ac i λaS=>jn (λaT aU aV aW aX aY aZ ba bb bc bd be bf bg bh bi bj bk bl bm bn bo bp bq br bs bt bu bv bw bx=>aG aT aU aV aW aX aY aZ ba bb bc bd be bf bg bh bi bj bk bl bm bn bo bp bq br bs bt bu bv bw bx) λbz=>Ti L R K bz L k l e m f n o aK aO p q r s t u v w x y z aa ab ac ad ae af ag i aS (A4 0) b) (j e g d)
def Tj:JD Wj A5v:=JV C2g OU
def VS:Kr Tj OU:=λ_ _ _ _ _=>rfl
def UU:Jc:=λL R a0 H K=>Ap R IZ [a0] H λh=>C9 h 0 λo=>C9 h 1 λp=>Bx CK Aj H λa q=>DE Aj a o q λi=>MJ .not p λr=>A2 r (K (AV.tup [TH,(A4 220)]) i) (Ld Ad i λs t=>Bx IM Eb t λb u=>DE Eb b s u λv=>Ld Ac v λw x=>Bx EU BL x λc y=>DE BL c w y λf=>jn (λz aa j k ab ac ad ae af ag ah ai aj ak al am an ao ap aq ar au av aw ax ay az a1 l=>AE Aj j l λa2=>R.call MI [a2] l λa3 a4=>R.call Bn [a3,(AV.fn (.func LB) [] [k])] a4 λa5 a6=>jn (λa7 m d=>Ba Ac m λa8=>AE Aj a7 d λa9=>Zy a9 d λaA=>Aq Ad .lss a8 aA λaB=>A2 aB (K (AV.tup [TH,(A4 220)]) d) (K (AV.tup [m,(A4 0)]) d)) λaC=>jn (λaD aE aF=>aC aD aE aF) λaG=>Tj L R K aG L z aa j k ab ac ad a5 TH ae af ag ah ai aj ak al am an ao ap aq ar au av aw ax ay az a1 a6) λaH=>AE Aj a f λaI=>Ap R Fs [aI] f λe=>jn (λaJ aK aL aM aN aO aP aQ aR aS aT aU aV aW aX aY aZ ba bb bc bd be bf bg bh bi bj bk bl=>aH aJ aK aL aM aN aO aP aQ aR aS aT aU aV aW aX aY aZ ba bb bc bd be bf bg bh bi bj bk bl) λn=>pH R 86 e [(2,TH),(3,(A4 0)),(4,a),(6,b),(7,c),(8,AV.dk),(9,AV.dk),(10,AV.dk),(11,AV.dk),(25,e),(26,AV.dk),(27,AV.dk),(28,AV.dk),(29,AV.dk),(30,AV.dk),(31,AV.dk),(32,AV.dk),(33,AV.dk),(34,AV.dk),(35,AV.dk),(36,AV.dk),(37,AV.dk),(38,AV.dk),(39,AV.dk),(40,AV.dk),(41,AV.dk),(42,AV.dk),(61,AV.dk),(62,AV.dk),(63,AV.dk)] (EX).2.1 (EX).2.2.1 (EX).2.2.2 f λbm g=>oU bm (n TH (A4 0) a b c AV.dk AV.dk e AV.dk AV.dk AV.dk AV.dk AV.dk AV.dk AV.dk AV.dk AV.dk AV.dk AV.dk AV.dk AV.dk AV.dk AV.dk AV.dk AV.dk AV.dk AV.dk AV.dk g) (K (AV.tup [TH,(A4 0)]) g) (λbn=>@Bool.rec (λ_=>Af) (none) (n TH (A4 0) a b c AV.dk AV.dk e AV.dk AV.dk AV.dk AV.dk AV.dk AV.dk AV.dk AV.dk AV.dk AV.dk AV.dk AV.dk AV.dk AV.dk AV.dk AV.dk AV.dk AV.dk AV.dk AV.dk g) (Nat.beq bn 0)) (λ_=>none))
def mG(L:Nat)(R:Rt)(c2:AV)(c3:AV)(c4:AV)(c6:AV)(c7:AV)(c8:AV)(c9:AV)(c10:AV)(c11:AV)(c25:AV)(c26:AV)(c27:AV)(c28:AV)(c29:AV)(c30:AV)(c31:AV)(c32:AV)(c33:AV)(c34:AV)(c35:AV)(c36:AV)(c37:AV)(c38:AV)(c39:AV)(c40:AV)(c41:AV)(c42:AV)(c61:AV)(c62:AV)(c63:AV)(a0:AV)(a1:AV)(P:Hp->Ru->Af)(Q:Exit->Ru)(H:Hp):rdK (λcf=>MD (E L) R cf) 86 [(2,c2),(3,c3),(4,c4),(6,c6),(7,c7),(8,c8),(9,c9),(10,c10),(11,c11),(25,c25),(26,c26),(27,c27),(28,c28),(29,c29),(30,c30),(31,c31),(32,c32),(33,c33),(34,c34),(35,c35),(36,c36),(37,c37),(38,c38),(39,c39),(40,c40),(41,c41),(42,c42),(61,c61),(62,c62),(63,c63)] (EX).2.1 [a0,a1] (EX).2.2.1 (EX).2.2.2 H P Q=P H λa=>jn (λj=>Q .normal j) λf=>AE Aj c4 a λk=>Ap R EA [k,a1] a λl=>A2 l (AE Eb c6 a λg=>Kk a0 λm=>Ye Ad false g m a λn=>Aq Ad .add n (A4 1) λo=>Kk a0 λp=>Mg g p o a λb=>Ax (AE BL c7 b AS) λd=>Ax (AE BL c7 b AS) λe=>Ax (Kk a1 λq=>Ye Ac false e q b AS) λh=>Ei (GF Au 1 Ai 1 [(0,1,a0)] b λv H=>some (v,H)) λr c=>Ei (E0 Au 1 Ai Ac h r c λv H=>some (v,H)) λs i=>Ei (Kk a1 λt=>Mg d t s i λH=>some (AV.v undef,H)) λx u=>RQ (Bj (AE BL c7 c AS) d) (RQ (Bj (AE BL c7 i AS) d) (RQ (Bj (AE BL c7 c AS) e) (RQ (Bj (Kk a1 λw=>Ye Ac false e w c AS) h) (f u))))) (f a):=by kernel_rfl
def Qf:Jc:=λL R a0 H K=>Ih 11 L R a0 H K _
def NG:JE Yg TG:=λL R K o ih e a f b=>Ba Ac f λp=>Aq Ad .gtr p (A4 0) λq=>A2 q (jn (λr s=>ih e a r s) λh=>D4 Ac f (A4 0) λt=>AE Ai t b λc=>D3 Ac f (some (A4 1)) none none λi=>Kk c λu=>Ye BH true a u b λj=>C9 j 0 λv=>C9 j 1 λw=>Bx Om BH b λx y=>DE BH x v y λk=>MJ .not w λd=>D5 d k (some (e,k)) λz l=>D5 d l (some (c,l)) λaa g=>D5 d g (Ap R EA [z,aa] g (Dq g)) λab m=>Cj d ab FW λac=>A2 ac (Cb BH [] λad=>Kk c λae=>Mg a ae ad m λn=>Kk c λaf=>Ye Ae false e af n λag=>A0l 31 Ac ag λah=>E0 Au 1 Ai Ac i ah n λai aj=>h ai aj) (h i m)) (o a b)
def XA6:JD Yg TG:=JV z3N NG
def Zn:Kr XA6 NG:=λ_ _ _ _ _=>rfl
def OP:Jf:=λL R a0 a1 H K=>Ap R IZ [a0] H λa=>C9 a 0 λb=>C9 a 1 λr=>Ld BH H λd c=>Kk a1 λe=>Ye Ae false b e c λf=>A0l 31 Ac f λg=>R.call AH [g] c λh i=>jn (λj k=>R.call GZ [j] k λl m=>K l m) λn=>jn (λo p=>n o p) λq=>XA6 L R K q L b d h i
def Xt:Jf:=λL R a0 a1 H K=>LF 13 L R a0 a1 H K _
def Ze:Jf:=λL R a0 a1 H K=>LF 14 L R a0 a1 H K _
def Zd:Jc:=λL R a0 H K=>I3 R Bt [a0] H λa=>R.call QM [a] H λb c=>K b c
def K8:Jc:=λL R a0 H K=>RN BP CZ .eql a0 (AV.v (.pointer none)) λc=>A2 c (K TH H) (R.call FO [a0] H λd e=>R.call Br [d] e λf g=>R.call BG [f] g λh a=>Ap R Li [h] a λb=>C9 b 0 λi=>C9 b 1 λn=>R.call Ie [a0,i] a λj k=>R.call BG [j] k λl m=>K l m)
def Nr:JE Ru TG:=λL R K e ih c d b a=>Ba Am c λf=>Aq Ad .lss b f λg=>A2 g (Kx Am c b Ae a λh=>Kx Am d b Ae a λi=>Ax (Ap R Pc [h,i] a AS) λj=>MJ .not j λk=>A2 k (K FW a) (Aq Ad .add b (A4 1) λl=>ih c d l a)) (e a)
def Nq:JD Ru TG:=JV z3N Nr
def YH:Kr Nq Nr:=λ_ _ _ _ _=>rfl
def OA:Jf:=λL R a0 a1 H K=>Ba Am a0 λa=>Ba Am a1 λb=>Aq Ad .neq a b λc=>A2 c (K FW H) (jn (λd=>K Ks d) λe=>jn (λf=>e f) λg=>Nq L R K g L a0 a1 (A4 0) H)
def LR:JE Ru TG:=λL R K e ih c d b a=>Ba Ac c λf=>Aq Ad .lss b f λg=>A2 g (Kx Ac c b Ai a λh=>Kx Ac d b Ai a λi=>Ax (Aq Ai .neq h i AS) λj=>A2 j (K FW a) (Aq Ad .add b (A4 1) λk=>ih c d k a)) (e a)
def LQ:JD Ru TG:=JV z3N LR
def Wu:Kr LQ LR:=λ_ _ _ _ _=>rfl
def MG:Jf:=λL R a0 a1 H K=>Ba Ac a0 λa=>Ba Ac a1 λb=>Aq Ad .neq a b λc=>A2 c (K FW H) (jn (λd=>K Ks d) λe=>jn (λf=>e f) λg=>LQ L R K g L a0 a1 (A4 0) H)
def Ur:JE F7N F7N:=λL R K j ih f g h b d e c a=>DN 31 b Ac a λk=>Ba Ac k λl=>Aq Ad .lss c l λm=>A2 m (jn (λn o=>Aq Ad .add c (A4 1) λp=>ih f g h b d n p o) λq=>jn (λr s=>q r s) λi=>DN 31 b Ac a λt=>Ia Ac t c Ai a λu=>Aq Ai .eql u e λv=>A2 v (Aq Ad .sub (A4 (-1)) d λw=>Ap R Kn [w] a λx=>i x a) (i e a)) (j f g h b d e c a)
def Up:JD F7N F7N:=JV z7N Ur
def pO:Kr Up Ur:=λ_ _ _ _ _=>rfl
def Us:JE TG F7N:=λL R K r ih d e j f c aC aD a=>CI 32 f λs=>DN 1 s Ak a λt=>Ba Ak t λu=>Aq Ad .lss c u λv=>A2 v (D4 BB e (A4 1) λw=>AE Ad w a λx=>Aq Ad .quo x (A4 3) λy=>Ap R BU [y,(A4 1000)] a λz=>Aq Ad .add z c λaa=>Ap R Kn [aa] a λab=>jn (λac ad=>jn (λae af ag g ah k ai l=>DN 31 g Ac l λaj=>GF Au 1 Ai 1 [(0,1,k)] l λak al=>E0 Au 1 Ai Ac aj ak al λam an=>CI 31 g λao=>DE Ac ao am an λap=>Aq Ad .add ah (A4 1) λaq=>ih ae af ag g aq k ai ap) λar=>jn (λau av aw ax ay az a0 a1=>ar au av aw ax ay az a0 a1) λa2=>Up L R K a2 L d e j f c ac (A4 0) ad) λm=>Ba Ac d λa3=>Aq Ad .lss c a3 λb=>D5 b a (some (d,a)) λa4 n=>D5 b n (some (c,n)) λa5 o=>D5 b o (D4 Ac a4 a5 (Dq o)) λa6 h=>D5 b h (AE Ai a6 h (Dq h)) λa7 p=>D5 b p (Ba Ai a7 (Dq p)) λa8 q=>D5 b q (Aq Ad .eql a8 (A4 32) (Dq q)) λa9 i=>Cj b a9 FW λaA=>A2 aA (Ia Ac d c Ai i λaB=>m aB i) (m ab i)) (r e j f a)
def Uq:JD TG F7N:=JV z7N Us
def pP:Kr Uq Us:=λ_ _ _ _ _=>rfl
def Xe:Y4N:=λL R a0 a1 a2 a3 H K=>FV Jv a0 H λc am=>FV Jv a1 am λh an=>Bx Ab Ae an λj a=>Ax (D4 BB c (A4 0) AS) λs=>Ax (AE Ad s a AS) λk=>Ax (Ap R BU [k,(A4 3)] a AS) λt=>Ax (Aq Ad .add (A4 1) t AS) λao=>Ax (D4 BB c (A4 1) AS) λu=>Ax (AE Ad u a AS) λl=>Ax (Ap R BU [l,(A4 3)] a AS) λw=>Ax (Aq Ad .add (A4 1) w AS) λap=>Ax (D4 BB c (A4 2) AS) λx=>Ax (AE Ad x a AS) λm=>Ax (Ap R BU [m,(A4 9)] a AS) λy=>Ax (Aq Ad .add (A4 1) y AS) λaq=>Ax (D4 BB c (A4 3) AS) λz=>Ax (AE Ad z a AS) λn=>Ax (Ap R BU [n,(A4 4)] a AS) λaa=>Ax (Aq Ad .add (A4 1) aa AS) λar=>Ax (D4 BB c (A4 4) AS) λab=>Ax (AE Ad ab a AS) λo=>Ax (Ap R BU [o,(A4 50)] a AS) λac=>Ax (D4 BB c (A4 5) AS) λad=>Ax (AE Ad ad a AS) λp=>Ax (Ap R BU [p,(A4 30)] a AS) λae=>Ax (Cb Ae [(0,1,ao),(1,1,ap),(2,1,aq),(3,1,ar),(4,1,ac),(5,1,ae)] AS) λau=>Ei (Bx Ab Ae a λv H=>some (v,H)) λd b=>Ei (DE Ae d au b λH=>some (AV.v undef,H)) λbt f=>RQ (Bj (AE Ad s b AS) k) (RQ (Bj (Ap R BU [k,(A4 3)] b AS) t) (RQ (Bj (AE Ad u b AS) l) (RQ (Bj (Ap R BU [l,(A4 3)] b AS) w) (RQ (Bj (AE Ad x b AS) m) (RQ (Bj (Ap R BU [m,(A4 9)] b AS) y) (RQ (Bj (AE Ad z b AS) n) (RQ (Bj (Ap R BU [n,(A4 4)] b AS) aa) (RQ (Bj (AE Ad ab b AS) o) (RQ (Bj (Ap R BU [o,(A4 50)] b AS) ac) (RQ (Bj (AE Ad ad b AS) p) (RQ (Bj (Ap R BU [p,(A4 30)] b AS) ae) (D4 BB c (A4 3) λav=>AE Ad av f λaw=>Aq Ad .quo aw (A4 4) λax=>D4 BB c (A4 4) λay=>AE Ad ay f λaz=>Aq Ad .quo az (A4 50) λa4=>AE BB h f λa5=>Ap R RF [ax,a4,a5] f λa6=>CI 26 d λa7=>DE Fo a7 a6 f λq=>D4 BB c (A4 5) λa8=>AE Ad a8 q λa9=>Aq Ad .quo a9 (A4 30) λaA=>Ap R Gw [aA] q λaB=>CI 6 d λaC=>DE A0 aC aB q λe=>DN 0 d Ad e λaD=>Aq Ad .eql aD (A4 1) λaE=>A2 aE (AE Ae d e λaF=>DE Ae j aF e λaf=>AE Ae j af λaG=>K aG af) (D4 BB h (A4 0) λaH=>AE Ad aH e λaI=>D4 BB h (A4 1) λaJ=>AE Ad aJ e λaK=>D4 BB h (A4 2) λaL=>AE Ad aL e λaM=>Cb Sg [(0,1,aI),(1,1,aK),(2,1,aM)] λaN=>D4 BB c (A4 2) λaO=>AE Ad aO e λaP=>Aq Ad .quo aP (A4 9) λaQ=>Ap R RE [aN,aQ,a2,Ks] e λaR=>CI 32 d λaS=>DE AU aS aR e λag=>CI 32 d λaT=>DN 3 aT A0 ag λaU=>CI 6 d λaV=>DE A0 aV aU ag λaW=>jn (λah ai i g=>jn (λaj=>AE Ae i aj λaX=>DE Ae ai aX aj λak=>AE Ae ai ak λaY=>K aY ak) λal=>DN 0 i Ad g λaZ=>Aq Ad .eql aZ (A4 3) λba=>A2 ba (D4 BB ah (A4 0) λbb=>AE Ad bb g λbc=>Aq Ad .quo bc (A4 3) λbd=>Ap R KK [bd] g λbe=>CI 55 i λbf=>DE Ef bf be g λr=>D4 BB ah (A4 0) λbg=>AE Ad bg r λbh=>Aq Ad .quo bh (A4 9) λbi=>Ap R BU [bi,(A4 3)] r λbj=>Aq Ad .add (A4 1) bj λbk=>CI 64 i λbl=>DE Ad bl bk r λbm=>al bm) (al g)) λbn=>jn (λbo bp bq br=>bn bo bp bq br) λbs=>Uq L R K bs L a3 c j d (A4 0) AV.dk AV.dk aW)))))))))))))
def Xf:Jc:=λL R a0 H K=>Ih 20 L R a0 H K _
def Ta:Y0N:=λL R H K=>q0N 21 L R H K _
def Ww:JE Yg TG:=λL R K e ih b d c a=>Ba Am b λf=>Aq Ad .lss c f λg=>A2 g (Ia Am b c Ae a λh=>Ap R GY [h] a λi=>GF Au 1 Ai 1 [(0,1,i)] a λj k=>E0 Au 1 Ai Ac d j k λl m=>Aq Ad .add c (A4 1) λn=>ih b l n m) (e d a)
def Wv:JD Yg TG:=JV z3N Ww
def tU:Kr Wv Ww:=λ_ _ _ _ _=>rfl
def YW:Jc:=λL R a0 H K=>jn (λa b=>K a b) λc=>jn (λd e=>c d e) λf=>Wv L R K f L a0 TH (A4 0) H
def JI:Jc:=λL R a0 H K=>Ih 23 L R a0 H K _
def Gk:Jf:=λL R a0 a1 H K=>FV A5 a1 H λd e=>RN BP CZ .eql a0 (AV.v (.pointer none)) λa=>Fg a e (AE AI d e (Dq e)) λi f=>Fg a f (Ap R M0 [i] f (Dq f)) λj g=>Fg a g (MJ .not j (Dq g)) λk h=>Cj a Ks k λl=>A2 l (K TH h) (Ld Aa h λb m=>XB .i64 (A4 1) λn=>Mg b n (AV.fn (.func CO) [] []) m λo=>XB .i64 (A4 2) λp=>Mg b p (AV.fn (.func D1) [] []) o λq=>XB .i64 (A4 3) λr=>Mg b r (AV.fn (.func DI) [] []) q λc=>DN 0 d Ad c λs=>XB .i64 s λt=>Ye Aa false b t c λu=>AE AI d c λw=>CH (E L) R u [a0,w] c λx y=>K x y)
def K7:Jf:=λL R a0 a1 H K=>FV Ab a1 H λc a=>RN BP CZ .eql a0 (AV.v (.pointer none)) λd=>A2 d (K (A4 1) a) (AE Ae c a λe=>R.call G6 [a0,e] a λb f=>C9 b 0 λh=>C9 b 1 λg=>K g f)
def WY:Jf:=λL R a0 a1 H K=>jn (λb c=>Aq Ad .rem b a1 λd=>K d c) λa=>Aq Ad .lss a0 (A4 0) λe=>A2 e (Aq Ad .add a0 (A4 1) λf=>MJ .neg f λg=>a g H) (a a0 H)
def Wy:JE Ru TG:=λL R K e ih c d a b=>Ba Ac c λf=>Aq Ad .lss a f λg=>A2 g (Ia Ac c a Ai b λh=>Aq Ai .eql h d λi=>A2 i (K (AV.tup [Ks,a]) b) (Aq Ad .add a (A4 1) λj=>ih c d j b)) (e b)
def Wx:JD Ru TG:=JV z3N Wy
def tV:Kr Wx Wy:=λ_ _ _ _ _=>rfl
def YX:Jf:=λL R a0 a1 H K=>jn (λa=>K (AV.tup [FW,(A4 (-1))]) a) λb=>jn (λc=>b c) λd=>Wx L R K d L a0 a1 (A4 0) H
def Zm:JE Wj kX:=λL R K o ih i a j k c d=>Aq Ad .lss c k λp=>A2 p (Ia Am j c Ae d λq=>Bx Ab Ae d λe r=>DE Ae e q r λb=>AE Ae e b λs=>Ap R FK [s] b λf=>Kk f λt=>Ye Ae true a t b λl=>C9 l 0 λu=>C9 l 1 λg=>Bx Ab Ae b λv w=>DE Ae v u w λm=>Fg g m (some (f,m)) λx n=>Fg g n (Aq Ai .eql x (XV []) (Dq n)) λy h=>Cj g Ks y λz=>A2 z (Ld Ae h λaa ab=>K (AV.tup [aa,FW]) ab) (AE Ae e h λac=>Kk f λad=>Mg a ad ac h λae=>Aq Ad .add c (A4 1) λaf=>ih i a j k af ae)) (o i a d)
def Zl:JD Wj kX:=JV z5N Zm
def yZ:Kr Zl Zm:=λ_ _ _ _ _=>rfl
def fH:Jc:=λL R a0 H K=>Ld Ae H λb c=>jn (λd e a=>Ba Am d λf=>Aq Ad .gtr f (A4 64) λg=>A2 g (Ld Ae a λh i=>K (AV.tup [h,FW]) i) (K (AV.tup [e,Ks]) a)) λj=>Ba Am a0 λk=>jn (λl m n=>j l m n) λo=>Zl L R K o L a0 b a0 k (A4 0) c
def Jd:Jc:=λL R a0 H K=>Ih 30 L R a0 H K _
def Lw:Jf:=λL R a0 a1 H K=>LF 31 L R a0 a1 H K _
def K9:Jc:=λL R a0 H K=>R.call GM [a0] H λa b=>R.call D9 [a] b λc d=>K c d
def Il:JE Q9 Q9:=λL R K j ih f b g c k=>Zx c k λl d=>C9 l 0 λm=>A2 m (jn (λn=>ih f b g c n) λh=>eA c d λi=>C9 i 0 λo=>C9 i 1 λp=>Bx Ab Ae d λe q=>DE Ae e p q λa=>DN 31 e Ac a λr=>Ap R B8 [r,(AV.fn (.func Dj) [] [b])] a λs=>MJ .not s λt=>A2 t (AE Aj b a λu=>AE Ae e a λv=>Kk o λw=>Mg u w v a λx=>h x) (h a)) (j f b g c d)
def Ik:JD Q9 Q9:=JV rI Il
def PW:Kr Ik Il:=λ_ _ _ _ _=>rfl
def Im(L:Nat)(R:Rt)(K:KV)(ih:Q9):Q9:=λd e z aa b=>AE Aj e b λg=>Zy g b λh=>jn (λi c f j a=>AE Aj c a λk=>Zy k a λl=>Aq Ad .eql l f λm=>A2 m (AE Aj c a λn=>K n a) (ih i c f j a)) λo=>LG d λp=>DN 0 p Aj b λq=>XP q b λr s=>jn (λt u v w x=>o t u v w x) λy=>Ik L R K y L d e h r s
def FB(L:Nat)(R:Rt)(K:KV)(n:Nat):Q9:=lpN rI (Im L R K) n
def PX(L:Nat)(R:Rt)(K:KV)(n:Nat):FB L R K (n+1)=Im L R K (FB L R K n):=rfl
def I7:Jc:=λL R a0 H K=>Ld Ae H λb c=>Bx Az Aj c λa d=>DE Aj a b d λe=>FB L R K L a0 a AV.dk AV.dk e
def EW:JE Wj Q9:=λL R K i ih a e b c d=>Ba Ac a λj=>Aq Ad .lss c j λk=>A2 k (jn (λl m=>Aq Ad .add c (A4 1) λn=>ih a e l n m) λo=>jn (λp q=>o p q) λf=>Ia Ac a c Ai d λg=>CH (E L) R e [g] d λr h=>MJ .not r λs=>A2 s (D4 Ac a b λt=>DE Ai t g h λu=>Aq Ad .add b (A4 1) λv=>f v u) (f b h)) (i a b d)
def EV:JD Wj Q9:=JV rI EW
def XA4:Kr EV EW:=λ_ _ _ _ _=>rfl
def Fj:Jf:=λL R a0 a1 H K=>Ap R Ed [a0,a1] H λa=>Aq Ad .eql a (A4 (-1)) λd=>A2 d (K a0 H) (jn (λb c e=>D3 Ac b (some c) none none λf=>wI 1 Ai f e λg=>D3 Ac b none (some c) none λh=>K h g) λi=>Aq Ad .add a (A4 1) λj=>jn (λk l m=>i k l m) λn=>EV L R K n L a0 a1 a j H)
def Eo:Jc:=λL R a0 H K=>R.call EK [a0] H λa b=>R.call AM [a] b λd c=>K a c
def C6:Jc:=λL R a0 H K=>Ih 36 L R a0 H K _
def GW:Jf:=λL R a0 a1 H K=>LF 37 L R a0 a1 H K _
def MH:Jc:=λL R a0 H K=>Ap R D2 [a0] H λa=>R.call D9 [a] H λb c=>K b c
def OO:Jf:=λL R a0 a1 H K=>LF 39 L R a0 a1 H K _
def GQ:JE Yg TG:=λL R K e ih a d b c=>Ba Ac a λf=>Aq Ad .lss b f λg=>A2 g (Ia Ac a b Ai c λh=>eMM true d h λi=>Aq Ad .add b (A4 1) λj=>ih a i j c) (e d c)
def GP:JD Yg TG:=JV z3N GQ
def On:Kr GP GQ:=λ_ _ _ _ _=>rfl
def HF:Jc:=λL R a0 H K=>jn (λa=>D4 Ac a0 (A4 0) λb=>AE Ai b a λc=>jn (λd e=>K d e) λf=>jn (λg h=>f g h) λi=>GP L R K i L a0 c (A4 1) a) λj=>Ba Ac a0 λk=>Aq Ad .lss k (A4 1) λl=>A2 l (none) (j H)
def ON:Jf:=λL R a0 a1 H K=>LF 41 L R a0 a1 H K _
def ML:JE Wj kX:=λL R K j ih e a f g b c=>Aq Ad .lss b g λk=>A2 k (Ia A1 f b BJ c λl=>Bx Bf BJ c λd m=>DE BJ d l m λh=>DN 0 d Ad h λn=>GF Hh 1 Ad 1 [(0,1,n)] h λo p=>R.call BW [a,o] p λv i=>DN 1 d A3 i λq=>GF Bw 2 A3 1 [(0,2,q)] i λr s=>R.call CU [a,r] s λw t=>Aq Ad .add b (A4 1) λu=>ih e a f g u t) (j e a c)
def MK:JD Wj kX:=JV z5N ML
def Yr:Kr MK ML:=λ_ _ _ _ _=>rfl
def NB:Jc:=λL R a0 H K=>FV Ab a0 H λa e=>AE Ae a e λab=>Ap R Et [ab] e λac=>MJ .not ac λad=>A2 ad (K (AV.tup [(XV []),(A4 210)]) e) (DN 65 a LO e λae=>Ap R eM [ae] e λm=>C9 m 0 λbt=>C9 m 1 λaf=>Aq Ad .neq af (A4 0) λh=>Yo h e 65 a LO λag j=>D5 h j (Ap R QO [ag] j (Dq j)) λah n=>D5 h n (MJ .not ah (Dq n)) λai o=>Cj h ai FW λaj=>A2 aj (K (AV.tup [(XV []),(A4 210)]) o) (Bx Hw Ll o λf d=>DN 0 a Ad d λak=>DN 1 a Ad d λal=>DN 2 a Ad d λam=>DN 3 a Ad d λan=>DN 4 a Ad d λao=>DN 5 a Ad d λap=>GF Hh 1 Ad 6 [(0,1,ak),(1,1,al),(2,1,am),(3,1,an),(4,1,ao),(5,1,ap)] d λaq ar=>R.call BW [f,aq] ar λbu k=>DN 6 a A0 k λau=>Ap R J3 [au] k λp=>C9 p 0 λav=>C9 p 1 λbv=>GF Au 1 Ai 1 [(0,1,av)] k λaw ax=>R.call CC [f,aw] ax λbw q=>CI 26 a λay=>DN 0 ay A3 q λaz=>GF Bw 2 A3 1 [(0,2,az)] q λa1 a2=>R.call CU [f,a1] a2 λbx r=>CI 26 a λa3=>DN 2 a3 A1 r λa4=>Ba A1 a4 λa5=>GF Hh 1 Ad 1 [(0,1,a5)] r λa6 a7=>R.call BW [f,a6] a7 λbz s=>jn (λb c t=>CI 26 b λa8=>DN 3 a8 A3 t λa9=>GF Bw 2 A3 1 [(0,2,a9)] t λaA aB=>R.call CU [c,aA] aB λb0 u=>DN 31 b Ac u λaC=>Ba Ac aC λaD=>GF Hh 1 Ad 1 [(0,1,aD)] u λaE aF=>R.call BW [c,aE] aF λb1 v=>DN 31 b Ac v λaG=>R.call CC [c,aG] v λb2 l=>DN 32 b AU l λaH=>Ap R Gz [aH] l λw=>C9 w 0 λaI=>C9 w 1 λb3=>GF Au 1 Ai 1 [(0,1,aI)] l λaJ aK=>R.call CC [c,aJ] aK λb4 i=>jn (λaL=>CI 0 c λaM=>R.call Ic [aM] aL λaN x=>Aq Ad .gtr aN (A4 32768) λaO=>A2 aO (K (AV.tup [(XV []),(A4 210)]) x) (CI 0 c λaP=>R.call EO [aP] x λaQ aR=>K (AV.tup [aQ,(A4 0)]) aR)) λy=>DN 0 b Ad i λaS=>Aq Ad .eql aS (A4 3) λaT=>A2 aT (CI 55 b λaU=>DN 0 aU Ad i λaV=>GF Hh 1 Ad 1 [(0,1,aV)] i λaW aX=>R.call BW [c,aW] aX λb5 g=>CI 55 b λaY=>DN 1 aY A3 g λaZ=>CI 55 b λba=>DN 3 ba A3 g λbb=>CI 55 b λbc=>DN 5 bc A3 g λbd=>CI 55 b λbe=>DN 7 be A3 g λbf=>GF Bw 2 A3 4 [(0,2,aZ),(2,2,bb),(4,2,bd),(6,2,bf)] g λbg bh=>R.call CU [c,bg] bh λb6 z=>DN 64 b Ad z λbi=>GF Hh 1 Ad 1 [(0,1,bi)] z λbj bk=>R.call BW [c,bj] bk λb7 bl=>y bl) (y i)) λbm=>CI 26 a λbn=>DN 2 bn A1 s λaa=>Ba A1 aa λbo=>jn (λbp bq br=>bm bp bq br) λbs=>MK L R K bs L a f aa bo (A4 0) s))
def FA:Operand×Array Tmp×Code×Code:=XW (c43) 0
def Vl:JE zH F9N:=λL R K j ih b c d e a f k g h i=>Aq Ad .geq a (A4 0) λl=>A2 l (Ba Ai b λm=>Aq Ad .mul (A4 8) m λn=>Aq Ad .mul (A4 8) a λo=>Aq Ad .shr n o λp=>Jk Ad Bq p λq=>GF B3 1 Bq 1 [(0,1,q)] i λr s=>E0 B3 1 Bq AZ e r s λt u=>Aq Ad .sub a (A4 1) λv=>ih b c d t v f k g h u) (j b c d e a f g h i)
def Qy:JD zH F9N:=JV z9N Vl
def rE:Kr Qy Vl:=λ_ _ _ _ _=>rfl
def Vk:JE zH F9N:=λL R K j ih b c d a k e f g h i=>Ba AZ a λl=>Aq Ad .rem l (A4 64) λm=>Aq Ad .neq m (A4 56) λn=>A2 n (GF B3 1 Bq 1 [(0,1,(AV.v (.int .u8 0)))] i λo p=>E0 B3 1 Bq AZ a o p λq r=>ih b c d q k e f g h r) (j b c d a e f g h i)
def Vj:JD zH F9N:=JV z9N Vk
def rC:Kr Vj Vk:=λ_ _ _ _ _=>rfl
def Xv:Jc:=λL R a0 H K=>Cb AR [(0,1,(AV.v (.int .u32 1779033703))),(1,1,(AV.v (.int .u32 3144134277))),(2,1,(AV.v (.int .u32 1013904242))),(3,1,(AV.v (.int .u32 2773480762))),(4,1,(AV.v (.int .u32 1359893119))),(5,1,(AV.v (.int .u32 2600822924))),(6,1,(AV.v (.int .u32 528734635))),(7,1,(AV.v (.int .u32 1541459225)))] λi=>Bx BR AR H λd j=>DE AR d i j λk=>A2z B3 a0 k λl m=>GF B3 1 Bq 1 [(0,1,(AV.v (.int .u8 128)))] m λn o=>E0 B3 1 Bq AZ l n o λp q=>jn (λr s t u w x y z aa=>jn (λab e a f ac ad ae af ag=>jn (λah b=>AE AR ah b λai=>Ap R GN [ai] b λaj=>K aj b) λak=>R.call L8 [f,(A4 64)] ag λg al=>jn (λam an=>ak am an) λh=>pH R 40 g [(0,ab),(2,e),(3,a),(4,f),(5,ac),(6,ad),(34,g),(35,ae),(36,af)] (FA).2.1 (FA).2.2.1 (FA).2.2.2 al λao c=>oU ao (h a c) (K e c) (λap=>@Bool.rec (λ_=>Af) (none) (h a c) (Nat.beq ap 4)) (λ_=>none)) λaq=>jn (λar au av aw ax ay az a1 a2=>aq ar au av aw ax ay az a1 a2) λa3=>Qy L R K a3 L r s t u (A4 7) w x y z aa) λa4=>jn (λa5 a6 a7 a8 a9 aA aB aC aD=>a4 a5 a6 a7 a8 a9 aA aB aC aD) λaE=>Vj L R K aE L a0 (XV []) d p AV.dk AV.dk AV.dk AV.dk AV.dk q
def pY(L:Nat)(R:Rt)(c0:AV)(c2:AV)(c3:AV)(c4:AV)(c5:AV)(c6:AV)(c34:AV)(c35:AV)(c36:AV)(a0:AV)(P:Hp->Ru->Af)(Q:Exit->Ru)(H:Hp):rdK (λcf=>MD (E L) R cf) 40 [(0,c0),(2,c2),(3,c3),(4,c4),(5,c5),(6,c6),(34,c34),(35,c35),(36,c36)] (FA).2.1 [a0] (FA).2.2.1 (FA).2.2.2 H P Q=P H λa=>R.call Me [c3,a0] a λc b=>Q .normal b:=by kernel_rfl
def DM:Jc:=λL R a0 H K=>Ih 44 L R a0 H K _
def SZ:Jc:=λL R a0 H K=>FV Ab a0 H λa k=>Bx Ab Ae k λe b=>CI 26 a λl=>DN 2 l A1 b λm=>Ap R Ee [m] b λn=>CI 26 a λo=>CI 2 o λp=>DE A1 p n b λf=>DN 31 a Ac f λq=>R.call AH [q] f λr s=>CI 31 a λt=>DE Ac t r s λc=>CI 32 a λu=>DN 1 u Ak c λv=>Ap R CE [v] c λw=>CI 32 a λx=>CI 1 x λy=>DE Ak y w c λd=>CI 32 a λz=>DN 2 z Av d λaa=>Ap R CF [aa] d λab=>CI 32 a λac=>CI 2 ac λad=>DE Av ad ab d λg=>CI 65 a λae=>DN 1 ae Ac g λaf=>R.call AH [af] g λag ah=>CI 65 a λai=>CI 1 ai λaj=>DE Ac aj ag ah λh=>CI 65 a λak=>DN 2 ak Ac h λal=>R.call AH [al] h λam an=>CI 65 a λao=>CI 2 ao λap=>DE Ac ap am an λi=>AE Ae a i λaq=>DE Ae e aq i λj=>AE Ae e j λar=>K ar j
def Gh:Jc:=λL R a0 H K=>R.call E2 [TH,a0] H λa b=>K a b
def BD:Jc:=λL R a0 H K=>Ih 47 L R a0 H K _
def Kj:Jf:=λL R a0 a1 H K=>LF 48 L R a0 a1 H K _
def Xc:Jf:=λL R a0 a1 H K=>LF 49 L R a0 a1 H K _
def Xa:Jf:=λL R a0 a1 H K=>jn (λb c=>Aq Ad .rem b a1 λd=>K d c) λa=>Aq Ad .lss a0 (A4 0) λe=>A2 e (Aq Ad .add a0 (A4 1) λf=>MJ .neg f λg=>a g H) (a a0 H)
def UE:JE Wj Q9:=λL R K o ih g h a b c=>Aq Ad .lss b (A4 6) λp=>A2 p (jn (λq=>Aq Ad .add b (A4 1) λr=>ih g h a r q) λs=>jn (λt=>s t) λi=>Ia BB g b Ad c λu=>Ap R J6 [u,(A4 17)] c λv=>Aq Ad .sub v (A4 8) λj=>Aq Ad .neq j (A4 0) λd=>Yo d c 2 a A1 λw k=>D5 d k (Ba A1 w (Dq k)) λx l=>D5 d l (Aq Ad .lss x (A4 5) (Dq l)) λy e=>Cj d y FW λz=>A2 z (Ap R Gx [j,(A4 4)] e λm=>C9 m 0 λaa=>C9 m 1 λam=>Bx Bw A3 e λn ab=>DE A3 n aa ab λf=>DN 2 a A1 f λac=>Aq Ad .add (A4 1) b λad=>AE A3 n f λae=>Cb BJ [(0,1,ad),(1,2,ae)] λaf=>GF Bf 3 BJ 1 [(0,3,af)] f λag ah=>E0 Bf 3 BJ A1 ac ag ah λai aj=>CI 2 a λak=>DE A1 ak ai aj λal=>i al) (i e)) (o h a c)
def UC:JD Wj Q9:=JV rI UE
def pW:Kr UC UE:=λ_ _ _ _ _=>rfl
def Xn:Y3N:=λL R a0 a1 a2 H K=>FV Jv a2 H λi j=>Bx Ek Fo j λk l=>Cb Fo [] λm=>Bx Ek Fo l λa n=>DE Fo a m n λb=>Ap R J6 [a0,(A4 161)] b λo=>Aq Ad .sub o (A4 80) λp=>Ap R Gx [p,(A4 4)] b λd=>C9 d 0 λq=>C9 d 1 λae=>CI 0 a λr=>DE A3 r q b λc=>Ap R J6 [a1,(A4 9)] c λs=>Ap R Gx [s,(A4 4)] c λe=>C9 e 0 λt=>C9 e 1 λaf=>CI 3 a λu=>DE A3 u t c λv=>jn (λf w g=>AE Fo w g λx=>DE Fo f x g λh=>AE Fo f h λy=>K y h) λz=>jn (λaa ab ac=>z aa ab ac) λad=>UC L R K ad L i k a (A4 0) v
def Xh:Jc:=λL R a0 H K=>Ih 52 L R a0 H K _
def MT:JE TG gK:=λL R K aj ih ak o u al w d am h an p ao=>Ba JF o λap=>Aq Ad .lss p ap λi=>Yo i ao 2 d Av λaq x=>D5 i x (Ba Av aq (Dq x)) λar y=>D5 i y (Aq Ad .lss ar (A4 14) (Dq y)) λau q=>Cj i au FW λav=>A2 av (jn (λaw ax=>Aq Ad .add p (A4 1) λay=>ih ak o u al w d am aw an ay ax) λaz=>jn (λa0 a1=>az a0 a1) λz=>Ia JF o p CQ q λa2=>Bx HX CQ q λc a3=>DE CQ c a2 a3 λj=>DN 2 d Av j λa4=>Ba Av a4 λe=>D4 CQ c (A4 0) λa5=>AE Ad a5 j λa6=>Ap R C5 [a6,(A4 8)] j λa7=>Aq Ad .add (A4 1) a7 λa8=>Cb AP [(0,1,a8)] λa9=>Bx AX AP j λb aA=>DE AP b a9 aA λa=>jn (λk=>AE AU d k λaB=>AE AP b k λaC=>Ap R CN [aB,aC,e,h] k λaa=>C9 aa 0 λaD=>C9 aa 1 λaE=>Bx AB A0 k λab aF=>DE A0 ab aD aF λac=>Aq Ad .eql aE (A4 0) λf=>D5 f ac (some (u,ac)) λaG ad=>D5 f ad (MJ .not aG (Dq ad)) λaH ae=>D5 f ae (some (aH,ae)) λr aI=>OV r aI 0 b Ad λaJ af=>Fg r af (Aq Ad .neq aJ (A4 8) (Dq af)) λaK ag=>D5 f ag (Cj r Ks aK (Dq ag)) λaL l=>Cj f aL FW λaM=>A2 aM (DN 2 d Av l λaN=>AE AP b l λaO=>GF AX 26 AP 1 [(0,26,aO)] l λaP aQ=>E0 AX 26 AP Av aN aP aQ λaR aS=>CI 2 d λaT=>DE Av aT aR aS λah=>AE A0 ab ah λaU=>GF AB 20 A0 1 [(0,20,aU)] ah λaV aW=>E0 AB 20 A0 Ak h aV aW λaX aY=>z aX aY) (z h l)) λaZ=>DN 0 b Ad a λm=>jn (λba=>aZ ba) λg=>Aq Ad .eql m (A4 1) λbb=>A2 bb (Ax (D4 CQ c (A4 1) AS) λbc=>Ax (AE Ad bc a AS) λbd=>Ax (Ap R C5 [bd,(A4 13)] a AS) λbe=>Ax (Aq Ad .sub be (A4 6) AS) λbf=>Ax (D4 CQ c (A4 2) AS) λbg=>Ax (AE Ad bg a AS) λbh=>Ax (Ap R C5 [bh,(A4 4)] a AS) λbi=>Ax (Aq Ad .add (A4 1) bi AS) λbj=>Ax (Ap R Gx [bf,bj] a AS) λai=>Ax (C9 ai 0 AS) λbk=>Ax (C9 ai 1 AS) λbS=>Ax (CI 1 b AS) λbl=>Ei (DE A3 bl bk a λH=>some (AV.v undef,H)) λbT s=>D4 CQ c (A4 3) λbm=>AE Ad bm s λbn=>Ap R Gw [bn] s λbo=>CI 3 b λbp=>DE A0 bp bo s λbq=>g bq) (Aq Ad .eql m (A4 2) λbr=>A2 br (D4 CQ c (A4 1) λbs=>AE Ad bs a λbt=>DN 1 d Ak a λbu=>Ba Ak bu λbv=>Ap R C5 [bt,bv] a λbw=>CI 23 b λbx=>DE Ad bx bw a λbz=>g bz) (Aq Ad .eql m (A4 7) λb0=>A2 b0 (D4 CQ c (A4 1) λb1=>AE Ad b1 a λb2=>Ap R C5 [b2,e] a λb3=>CI 24 b λb4=>DE Ad b4 b3 a λb5=>GF Hh 1 Ad 5 [(0,1,(A4 2)),(1,1,(A4 (-1))),(2,1,(A4 3)),(3,1,(A4 (-2))),(4,1,(A4 1))] b5 λb6 n=>D4 CQ c (A4 2) λb7=>AE Ad b7 n λb8=>Ap R C5 [b8,(A4 5)] n λb9=>Ia Bi b6 b9 Ad n λbA=>CI 23 b λbB=>DE Ad bB bA n λbC=>g bC) (Aq Ad .eql m (A4 8) λbD=>A2 bD (D4 CQ c (A4 1) λbE=>AE Ad bE a λbF=>Ap R C5 [bF,e] a λbG=>CI 24 b λbH=>DE Ad bH bG a λbI=>g bI) (D4 CQ c (A4 1) λbJ=>AE Ad bJ a λbK=>Ap R C5 [bK,e] a λbL=>CI 24 b λbM=>DE Ad bM bL a λt=>D4 CQ c (A4 2) λbN=>AE Ad bN t λbO=>Ap R C5 [bO,e] t λbP=>CI 25 b λbQ=>DE Ad bQ bP t λbR=>g bR))))) (aj w d h q)
def MS:JD TG gK:=JV A3t MT
def QY:Kr MS MT:=λ_ _ _ _ _=>rfl
def U9:JE F9N gK:=λL R K l ih e f g h i a j k b m c=>DN 1 a Ak c λn=>Ba Ak n λo=>Aq Ad .lss b o λp=>A2 p (DN 2 a Av c λq=>Cb AP [(0,1,(A4 2)),(23,1,b)] λr=>GF AX 26 AP 1 [(0,26,r)] c λs t=>E0 AX 26 AP Av q s t λu v=>CI 2 a λw=>DE Av w u v λd=>DN 1 a Ak d λx=>Ia Ak x b A0 d λy=>GF AB 20 A0 1 [(0,20,y)] d λz aa=>E0 AB 20 A0 Ak k z aa λab ac=>Aq Ad .add b (A4 1) λad=>ih e f g h i a j ab ad m ac) (l e f g h i a j k b c)
def Uy:JD F9N gK:=JV A3t U9
def pU:Kr Uy U9:=λ_ _ _ _ _=>rfl
def Uz:JE zH gK:=λL R K m ih d f g e h b c n o i a=>Ap R C5 [d,(A4 3)] a λp=>Aq Ad .leq c p λq=>A2 q (Ax (CI 1 b AS) λj=>Ax (AE Ak j a AS) λk=>Kx Sg e c Ad a λr=>Ax (Ap R Gw [r] a AS) λs=>Ei (GF AB 20 A0 1 [(0,20,s)] a λv H=>some (v,H)) λt l=>Ei (E0 AB 20 A0 Ak k t l λv H=>some (v,H)) λu w=>Ax (CI 1 b AS) λx=>Ei (DE Ak x u w λH=>some (AV.v undef,H)) λaa y=>RQ (Bj (AE Ak j l AS) k) (Aq Ad .add c (A4 1) λz=>ih d f g e h b z n o i y)) (m d f g e h b c i a)
def Ux:JD zH gK:=JV A3t Uz
def pS:Kr Ux Uz:=λ_ _ _ _ _=>rfl
def Xj:Y4N:=λL R a0 a1 a2 a3 H K=>FV Vz a0 H λi j=>Bx Co AU j λk a=>Ap R C5 [a1,(A4 900)] a λl=>Aq Ad .add (A4 1) l λm=>Cb AU [(0,1,m)] λn=>Bx Co AU a λb o=>DE AU b n o λp=>jn (λq r s t u v w x y=>jn (λz aa ab ac ad ae af ag ah ai=>jn (λc d e f=>Ba Ak e λaj=>Aq Ad .sub aj (A4 1) λak=>Ia Ak e ak A0 f λal=>CI 3 d λam=>DE A0 am al f λg=>AE AU d g λan=>DE AU c an g λh=>AE AU c h λao=>K ao h) λap=>jn (λaq ar au av=>ap aq ar au av) λaw=>MS L R K aw L z aa ab ac ad ae af ag ah (A4 0) ai) λax=>jn (λay az a4 a5 a6 a7 a8 a9 aA aB=>ax ay az a4 a5 a6 a7 a8 a9 aA aB) λaC=>Uy L R K aC L q r s t u v w TH (A4 0) x y) λaD=>jn (λaE aF aG aH aI aJ aK aL aM=>aD aE aF aG aH aI aJ aK aL aM) λaN=>Ux L R K aN L a1 a2 a3 i k b (A4 0) AV.dk AV.dk AV.dk p
def SO:Jc:=λL R a0 H K=>Ih 54 L R a0 H K _
def Xd:Jc:=λL R a0 H K=>Bx Kz Ef H λc d=>Ap R BU [a0,(A4 3)] d λh=>Aq Ad .add (A4 1) h λi=>Cb A3 [(0,1,(XV [45,53])),(1,1,(XV [49]))] λj=>Cb A3 [(0,1,(XV [50,53])),(1,1,(XV [50]))] λk=>Cb A3 [(0,1,(XV [48])),(1,1,(XV [49]))] λl=>Cb A3 [(0,1,(XV [49])),(1,1,(XV [50,48]))] λm=>Cb Ef [(0,1,i),(1,2,j),(3,2,k),(5,2,l),(7,2,m)] λn=>Bx Kz Ef d λa o=>DE Ef a n o λb=>jn (λe=>AE Ef a e λp=>DE Ef c p e λf=>AE Ef c f λq=>K q f) λg=>DN 0 a Ad b λr=>Aq Ad .eql r (A4 2) λs=>A2 s (Cb A3 [(0,1,(XV [49])),(1,1,(XV [50]))] λt=>CI 5 a λu=>DE A3 u t b λv=>g v) (g b)
def R6:Jc:=λL R a0 H K=>Ih 56 L R a0 H K _
def WV:JE Yg kX:=λL R K e ih c f g d a b=>Aq Ad .lss a (A4 8) λh=>A2 h (Kx AJ c a Ao b λi=>Ax (Aq Ao .shr i (AV.v (.int .u64 24)) AS) λj=>Ax (Jk Ao Bq j AS) λk=>Kx AJ c a Ao b λl=>Ax (Aq Ao .shr l (AV.v (.int .u64 16)) AS) λm=>Ax (Jk Ao Bq m AS) λn=>Kx AJ c a Ao b λo=>Ax (Aq Ao .shr o (AV.v (.int .u64 8)) AS) λp=>Ax (Jk Ao Bq p AS) λq=>Kx AJ c a Ao b λr=>Ax (Jk Ao Bq r AS) λs=>Ei (GF B3 1 Bq 4 [(0,1,k),(1,1,n),(2,1,q),(3,1,s)] b λv H=>some (v,H)) λt u=>Ei (E0 B3 1 Bq AZ d t u λv H=>some (v,H)) λw x=>Aq Ad .add a (A4 1) λy=>ih c f g w y x) (e d b)
def W0:JD Yg kX:=JV z5N WV
def tX:Kr W0 WV:=λ_ _ _ _ _=>rfl
def WQ:JE TG kX:=λL R K e ih d b a f g c=>Ba AZ b λh=>Aq Ad .lss a h λi=>A2 i (Aq Ad .add a (A4 64) λj=>D3 AZ b (some a) (some j) none λk=>Ap R Vd [d,k] c λl=>Aq Ad .add a (A4 64) λm=>ih l b m f g c) (e d b a c)
def Wz:JD TG kX:=JV z5N WQ
def tW:Kr Wz WQ:=λ_ _ _ _ _=>rfl
def Zb:Jc:=λL R a0 H K=>GF Cs 1 Ao 8 [(0,1,(AV.v (.int .u32 1779033703))),(1,1,(AV.v (.int .u32 3144134277))),(2,1,(AV.v (.int .u32 1013904242))),(3,1,(AV.v (.int .u32 2773480762))),(4,1,(AV.v (.int .u32 1359893119))),(5,1,(AV.v (.int .u32 2600822924))),(6,1,(AV.v (.int .u32 528734635))),(7,1,(AV.v (.int .u32 1541459225)))] H λc a=>Ap R Qr [a0] a λd=>jn (λe f g h=>jn (λi b=>zF i b λj=>K j b) λk=>jn (λl m=>k l m) λn=>W0 L R K n L e f g TH (A4 0) h) λo=>jn (λp q r s=>o p q r s) λt=>Wz L R K t L c d (A4 0) AV.dk AV.dk a
def EY:Operand×Array Tmp×Code×Code:=XW (c58) 0
def Tn:JE zH F9N:=λL R K j ih d e c f a k g h i l=>Zx a l λm b=>C9 m 0 λn=>A2 n (eA a b λo=>C9 o 0 λp=>AE CM c b λq=>Cb BH [] λr=>Kk p λs=>Mg q s r b λt=>ih d e c f a k g h i t) (j d e c f a g h i b)
def Tl:JD zH F9N:=JV z9N Tn
def nV:Kr Tl Tn:=λ_ _ _ _ _=>rfl
def UV:Jc:=λL R a0 H K=>Ap R IZ [a0] H λc=>C9 c 0 λd=>C9 c 1 λaq=>Ld BH H λl m=>Bx BX CM m λe n=>DE CM e l n λo=>jn (λf g a p q r s t h=>jn (λu i=>AE CM u i λv=>R.call GZ [v] i λw x=>K w x) λy=>Ap R Fs [g] h λj=>jn (λz aa=>y z aa) λk=>pH R 32 j [(2,f),(3,g),(5,a),(8,p),(16,q),(25,j),(27,r),(28,s),(29,t)] (EY).2.1 (EY).2.2.1 (EY).2.2.2 h λab b=>oU ab (k a b) (K f b) (λac=>@Bool.rec (λ_=>Af) (none) (k a b) (Nat.beq ac 2)) (λ_=>none)) λad=>XP d o λae af=>jn (λag ah ai aj ak al am an ao=>ad ag ah ai aj ak al am an ao) λap=>Tl L R K ap L TH d e AV.dk ae AV.dk AV.dk AV.dk AV.dk af
def mH(L:Nat)(R:Rt)(c2:AV)(c3:AV)(c5:AV)(c8:AV)(c16:AV)(c25:AV)(c27:AV)(c28:AV)(c29:AV)(a0:AV)(a1:AV)(P:Hp->Ru->Af)(Q:Exit->Ru)(H:Hp):rdK (λcf=>MD (E L) R cf) 32 [(2,c2),(3,c3),(5,c5),(8,c8),(16,c16),(25,c25),(27,c27),(28,c28),(29,c29)] (EY).2.1 [a0,a1] (EY).2.2.1 (EY).2.2.2 H P Q=P H λa=>AE CM c5 a λb=>Kk a1 λc=>kC b c a λd=>Q .normal d:=by kernel_rfl
def Qd:Jc:=λL R a0 H K=>Ih 59 L R a0 H K _
def JG:Jf:=λL R a0 a1 H K=>FV A5 a1 H λc a=>DN 1 c Ac a λd=>R.call AH [d] a λe f=>R.call Bn [e,(AV.fn (.func BV) [a0] [])] f λg b=>Ap R XA3 [a0,g] b λh=>K h b
def Jp:Jf:=λL R a0 a1 H K=>FV AW a0 H λb f=>FV A5 a1 f λg c=>DN 1 g Ac c λh=>R.call AH [h] c λi j=>R.call Bn [i,(AV.fn (.func Fp) [] [b])] j λd k=>R.call AM [d] k λw l=>R.call Cx [d] l λe a=>Ba Ac e λm=>Aq Ad .eql m (A4 0) λn=>A2 n (K TH a) (AE BP b a λo=>R.call Ie [o,e] a λp q=>R.call BG [p] q λr s=>Cb AI [(0,1,(A4 3)),(2,1,r)] λt=>GF A5 3 AI 1 [(0,3,t)] s λu v=>K u v)
def Jm:JE Wj kX:=λL R K k ih a b e f c d=>Aq Ad .lss c f λl=>A2 l (Ia Am e c Ae d λm=>Bx Ab Ae d λg n=>DE Ae g m n λh=>AE Ae g h λo=>R.call G6 [a,o] h λi j=>C9 i 0 λp=>C9 i 1 λu=>Fg b j (some (p,j)) λq r=>Cj b Ks q λs=>Aq Ad .add c (A4 1) λt=>ih a s e f t r) (k a b d)
def Jl:JD Wj kX:=JV z5N Jm
def R4:Kr Jl Jm:=λ_ _ _ _ _=>rfl
def JH:Jf:=λL R a0 a1 H K=>FV A5 a1 H λd b=>jn (λe f a=>MJ .not f λg=>A2 g (K TH a) (Ap R XA3 [e,TH] a λh=>K h a)) λi=>DN 2 d Am b λc=>Ba Am c λj=>jn (λk l m=>i k l m) λn=>Jl L R K n L a0 FW c j (A4 0) b
def Py:Jf:=λL R a0 a1 H K=>LF 63 L R a0 a1 H K _
def K6:Jf:=λL R a0 a1 H K=>LF 66 L R a0 a1 H K _
def Gs:JE F6N F6N:=λL R K i ih b c g d e a f=>Aq Ad .lss a e λj=>A2 j (Ia Ac d a Ai f λk=>CH (E L) R b [c,k] f λl h=>MJ .not l λm=>A2 m (K (AV.tup []) h) (Aq Ad .add a (A4 1) λn=>ih b c g d e n h)) (i b c g d e a f)
def Gq:JD F6N F6N:=JV z6N Gs
def Lb:Kr Gq Gs:=λ_ _ _ _ _=>rfl
def Gt:JE Ru F6N:=λL R K g ih h af a ag ah ai i=>Zx a i λj b=>C9 j 0 λk=>A2 k (jn (λl m n o p q r=>ih l m n o p q r) λs=>eA a b λc=>C9 c 0 λt=>C9 c 1 λu=>Bx Ab Ae b λd v=>DE Ae d u v λe=>DN 31 d Ac e λf=>Ba Ac f λw=>jn (λx y z aa ab ac ad=>s x y z aa ab ac ad) λae=>Gq L R K ae L h t a f w (A4 0) e) (g b)
def Gr:JD Ru F6N:=JV z6N Gt
def Lc:Kr Gr Gt:=λ_ _ _ _ _=>rfl
def GH:Jf:=λL R a0 a1 H K=>AE Aj a1 H λa=>XP a H λb c=>jn (λd=>K (AV.tup []) d) λe=>Gr L R K e L a0 AV.dk b AV.dk AV.dk AV.dk c
def Dt:Jc:=λL R a0 H K=>Ih 68 L R a0 H K _
def D8:Jf:=λL R a0 a1 H K=>LF 69 L R a0 a1 H K _
def GE:Jf:=λL R a0 a1 H K=>LF 70 L R a0 a1 H K _
def DS:JE Ru Q9:=λL R K g ih c d e a b=>Aq Ad .lss a e λh=>A2 h (Ia Ac c a Ai b λi=>CH (E L) R d [i] b λj f=>A2 j (K a f) (Aq Ad .add a (A4 1) λk=>ih c d e k f)) (g b)
def DR:JD Ru Q9:=JV rI DS
def Hy:Kr DR DS:=λ_ _ _ _ _=>rfl
def Ec:Jf:=λL R a0 a1 H K=>jn (λa=>K (A4 (-1)) a) λb=>Ba Ac a0 λc=>jn (λd=>b d) λe=>DR L R K e L a0 a1 c (A4 0) H
def EJ:Jc:=λL R a0 H K=>R.call II [TH,a0] H λa b=>K a b
def Cq:JE Ru Wj:=λL R K e ih c a f=>Zx a f λg b=>C9 g 0 λh=>A2 h (eA a b λi=>C9 i 0 λj=>CH (E L) R c [j] b λk d=>MJ .not k λl=>A2 l (K (AV.tup []) d) (ih c a d)) (e b)
def B6:JD Ru Wj:=JV z2N Cq
def Fq:Kr B6 Cq:=λ_ _ _ _ _=>rfl
def Ct:Jf:=λL R a0 a1 H K=>AE Aj a1 H λa=>XP a H λb c=>jn (λd=>K (AV.tup []) d) λe=>B6 L R K e L a0 b c
def D0:Jc:=λL R a0 H K=>Ih 75 L R a0 H K _
def Gp:Jc:=λL R a0 H K=>Ih 76 L R a0 H K _
def GB:JE Ru Q9:=λL R K g ih c d e b a=>Aq Ad .lss b e λh=>A2 h (Ia Bi d b Ad a λi=>Ap R Lh [i] a λf=>C9 f 0 λj=>C9 f 1 λo=>LG c λk=>CI 0 k λl=>R.call BN [l,j] a λp m=>Aq Ad .add b (A4 1) λn=>ih c d e n m) (g a)
def GA:JD Ru Q9:=JV rI GB
def Od:Kr GA GB:=λ_ _ _ _ _=>rfl
def GX:Jf:=λL R a0 a1 H K=>Ba Bi a1 λa=>jn (λb=>K (AV.tup []) b) λc=>GA L R K c L a0 a1 a (A4 0) H
def HD:JE Ru Q9:=λL R K g ih c d e b a=>Aq Ad .lss b e λh=>A2 h (Ia Ac d b Ai a λi=>Ap R Qq [i] a λf=>C9 f 0 λj=>C9 f 1 λo=>LG c λk=>CI 0 k λl=>R.call BN [l,j] a λp m=>Aq Ad .add b (A4 1) λn=>ih c d e n m) (g a)
def HC:JD Ru Q9:=JV rI HD
def Pw:Kr HC HD:=λ_ _ _ _ _=>rfl
def Io:Jf:=λL R a0 a1 H K=>Ba Ac a1 λa=>jn (λb=>K (AV.tup []) b) λc=>HC L R K c L a0 a1 a (A4 0) H
def GS:JE Ru Q9:=λL R K h ih e f g a b=>Aq Ad .lss a g λi=>A2 i (Ia Ju f a A3 b λj=>Bx Bw A3 b λc k=>DE A3 c j k λd=>DN 0 c Ai d λl=>DN 1 c Ai d λm=>GF Au 1 Ai 2 [(0,1,l),(1,1,m)] d λn o=>R.call CC [e,n] o λr p=>Aq Ad .add a (A4 1) λq=>ih e f g q p) (h b)
def GR:JD Ru Q9:=JV rI GS
def O9:Kr GR GS:=λ_ _ _ _ _=>rfl
def HK:Jf:=λL R a0 a1 H K=>Ba Ju a1 λa=>jn (λb=>K (AV.tup []) b) λc=>GR L R K c L a0 a1 a (A4 0) H
def Nv:JE Wj zH:=λL R K i ih e a j k l f g b c=>Aq Ad .lss b g λm=>A2 m (Ia Av f b AP c λn=>Bx AX AP c λh o=>DE AP h n o λd=>AE AP h d λp=>Ap R FI [p] d λq=>Aq Ai .add q (XV [10]) λr=>R.call BN [a,r] d λu s=>Aq Ad .add b (A4 1) λt=>ih e a j k l f g t s) (i e a c)
def Nt:JD Wj zH:=JV z8N Nv
def YM:Kr Nt Nv:=λ_ _ _ _ _=>rfl
def Nu:JE kX zH:=λL R K j ih g b c d a k l m e=>Aq Ad .lss a d λn=>A2 n (Ia Ak c a A0 e λo=>Bx AB A0 e λh p=>DE A0 h o p λf=>AE A0 h f λq=>Ap R J3 [q] f λi=>C9 i 0 λr=>C9 i 1 λw=>Aq Ai .add (XV [103,105,118,101,110,32]) r λs=>Aq Ai .add s (XV [10]) λt=>R.call BN [b,t] f λx u=>Aq Ad .add a (A4 1) λv=>ih g b c d v k l m u) (j g b c d a e)
def Ns:JD kX zH:=JV z8N Nu
def YL:Kr Ns Nu:=λ_ _ _ _ _=>rfl
def OH:Jc:=λL R a0 H K=>FV Co a0 H λa b=>AE AU a b λm=>Ap R Gy [m] b λn=>MJ .not n λo=>A2 o (K (AV.tup [(XV []),(A4 90)]) b) (Bx EB BQ b λe c=>DN 0 a Ad c λp=>Ap R BZ [p] c λq=>Aq Ai .add (XV [112,114,111,99,101,100,117,114,101,32]) q λr=>Aq Ai .add r (XV [10]) λs=>R.call BN [e,s] c λaw f=>jn (λg t u v w h=>jn (λx i d=>DN 3 x A0 d λy=>Ap R J3 [y] d λj=>C9 j 0 λz=>C9 j 1 λax=>Aq Ai .add (XV [111,117,116,112,117,116,32]) z λaa=>Aq Ai .add aa (XV [10]) λab=>R.call BN [i,ab] d λay ac=>R.call EO [i] ac λad ae=>K (AV.tup [ad,(A4 0)]) ae) λaf=>DN 2 g Av h λk=>Ba Av k λag=>jn (λah ai aj=>af ah ai aj) λak=>Nt L R K ak L g t u v w k ag (A4 0) h) λal=>DN 1 a Ak f λl=>Ba Ak l λam=>jn (λan ao ap aq ar au=>al an ao ap aq ar au) λav=>Ns L R K av L a e l am (A4 0) AV.dk AV.dk AV.dk f)
def Kh:Jc:=λL R a0 H K=>Ih 84 L R a0 H K _
def IU:Jc:=λL R a0 H K=>Ih 85 L R a0 H K _
def I4:Jf:=λL R a0 a1 H K=>FV PJ a0 H λc d=>FV Hh a1 d λa b=>jn (λe=>K (AV.fn (.func J4) [] [c,a]) e) λf=>AE Ad a b λg=>Aq Ad .lss g (A4 1) λh=>A2 h (none) (f b)
def Lt:JE Ru F6N:=λL R K e ih c f d g h a b=>Aq Ad .lss a (A4 8) λi=>A2 i (Ax (LG c AS) λj=>Kx AR j a Ao b λk=>Kx AR d a Ao b λl=>Ax (Aq Ao .add k l AS) λm=>Ax (LG c AS) λn=>Ax (D4 AR n a AS) λo=>Ei (DE Ao o m b λH=>some (AV.v undef,H)) λr p=>Aq Ad .add a (A4 1) λq=>ih c f d g h q p) (e b)
def Lq:JD Ru F6N:=JV z6N Lt
def VH:Kr Lq Lt:=λ_ _ _ _ _=>rfl
def Lr:JE kX F6N:=λL R K k ih h d a e c l b=>Aq Ad .lss c (A4 64) λm=>A2 m (kG Cv Ao e c λn=>Ax (D4 AR a (A4 0) AS) λo=>Ax (AE Ao o b AS) λf=>Ax (D4 AR a (A4 4) AS) λp=>Ax (AE Ao p b AS) λg=>Ax (D4 AR a (A4 7) AS) λq=>Ax (AE Ao q b AS) λr=>Ax (Z6 1 Ad 3 [(0,1,(A4 6)),(1,1,(A4 11)),(2,1,(A4 25))] AS) λs=>Ax (Ap R EP [g,s] b AS) λt=>Ax (Aq Ao .add r t AS) λu=>Ax (D4 AR a (A4 5) AS) λw=>Ax (AE Ao w b AS) λx=>Ax (Aq Ao .and g x AS) λy=>Ax (MJ .xor g AS) λz=>Ax (D4 AR a (A4 6) AS) λaa=>Ax (AE Ao aa b AS) λab=>Ax (Aq Ao .and z ab AS) λac=>Ax (Aq Ao .xor y ac AS) λad=>Ax (Aq Ao .add u ad AS) λae=>Ax (Aq Ao .add ae n AS) λaf=>Kx Cv d c Ao b λag=>Ax (Aq Ao .add af ag AS) λi=>Ax (Z6 1 Ad 3 [(0,1,(A4 2)),(1,1,(A4 13)),(2,1,(A4 22))] AS) λah=>Ax (Ap R EP [f,ah] b AS) λai=>Ax (D4 AR a (A4 1) AS) λaj=>Ax (AE Ao aj b AS) λak=>Ax (Aq Ao .and f ak AS) λal=>Ax (D4 AR a (A4 2) AS) λam=>Ax (AE Ao am b AS) λan=>Ax (Aq Ao .and f an AS) λao=>Ax (Aq Ao .xor al ao AS) λap=>Ax (D4 AR a (A4 1) AS) λaq=>Ax (AE Ao aq b AS) λar=>Ax (D4 AR a (A4 2) AS) λau=>Ax (AE Ao au b AS) λav=>Ax (Aq Ao .and ar av AS) λaw=>Ax (Aq Ao .xor ap aw AS) λax=>Ax (Aq Ao .add ai ax AS) λay=>Ax (zD 8 1 a (some (A4 1)) none b AS) λaz=>Ax (zD 8 1 a none (some (A4 7)) b AS) λa0=>Ei (A2K 1 az a0 b λv H=>some (v,H)) λaA j=>Aq Ao .add i ay λa1=>D4 AR a (A4 4) λa2=>AE Ao a2 j λa3=>Aq Ao .add a3 i λa4=>D4 AR a (A4 0) λa5=>DE Ao a5 a1 j λa6=>D4 AR a (A4 4) λa7=>DE Ao a7 a4 a6 λa8=>Aq Ad .add c (A4 1) λa9=>ih h d a e a9 l a8) (k h d a e c b)
def Lp:JD kX F6N:=JV z6N Lr
def VG:Kr Lp Lr:=λ_ _ _ _ _=>rfl
def LV:Jf:=λL R a0 a1 H K=>Ap R Pn [a1] H λe=>Bx Dm Cv H λa f=>DE Cv a e f λb=>LG a0 λg=>AE AR g b λh=>Bx BR AR b λc i=>DE AR c h i λd=>jn (λj k l m n o=>jn (λp=>K (AV.tup []) p) λq=>Lq L R K q L j k l m n (A4 0) o) λr=>AE Cv (AV.iptr gl0) d λs=>jn (λt u v w x y=>r t u v w x y) λz=>Lp L R K z L a0 a c s (A4 0) AV.dk d
def KS:JE F6N F6N:=λL R K h ih b c d e f a g=>Aq Ad .lss a (A4 4) λi=>A2 i (Aq Ad .mul (A4 4) c λj=>Aq Ad .add j a λk=>Aq Ad .mul (A4 8) a λl=>Aq Ad .sub (A4 24) l λm=>Aq Ao .shr d m λn=>Jk Ao Bq n λo=>D4 Ug b k λp=>DE Bq p o g λq=>Aq Ad .add a (A4 1) λr=>ih b c d e f r q) (h b c d e f a g)
def KP:JD F6N F6N:=JV z6N KS
def Vh:Kr KP KS:=λ_ _ _ _ _=>rfl
def KT:JE Yg F6N:=λL R K e ih b ag ah c a ai d=>Aq Ad .lss a (A4 8) λf=>A2 f (jn (λg h i j k l m=>Aq Ad .add k (A4 1) λn=>ih g h i j n l m) λo=>jn (λp q r s t u v=>o p q r s t u v) λw=>kG AR Ao c a λx=>jn (λy z aa ab ac ad ae=>w y z aa ab ac ad ae) λaf=>KP L R K af L b a x c a (A4 0) d) (e b d)
def KR:JD Yg F6N:=JV z6N KT
def Vi:Kr KR KT:=λ_ _ _ _ _=>rfl
def Lx:Jc:=λL R a0 H K=>FV BR a0 H λc d=>Bx Wq Ug d λe b=>jn (λf a=>zD 32 1 f none none a λg=>zF g a λh=>K h a) λi=>AE AR c b λj=>jn (λk l=>i k l) λm=>KR L R K m L e AV.dk AV.dk j (A4 0) AV.dk b
def Fz:Jc:=λL R a0 H K=>Ih 89 L R a0 H K _
def Fy:Jc:=λL R a0 H K=>Ih 90 L R a0 H K _
def F0:Jc:=λL R a0 H K=>Ih 91 L R a0 H K _
def AK:Operand×Array Tmp×Code×Code:=XW (c92) 0
def De:Jf:=λL R a0 a1 H K=>FV Bz a0 H λa e=>jn (λf c=>AE Am f c λg=>K g c) λh=>jn (λi j=>h i j) λd=>pH R 13 a1 [(2,a),(4,TH),(5,AV.dk),(6,a1),(7,AV.dk),(8,AV.dk),(9,AV.dk),(10,AV.dk),(11,AV.dk)] (AK).2.1 (AK).2.2.1 (AK).2.2.2 e λk b=>oU k (d a b) (K TH b) (λl=>@Bool.rec (λ_=>Af) (none) (d a b) (Nat.beq l 0)) (λ_=>none)
def HB(L:Nat)(R:Rt)(c2:AV)(c4:AV)(c5:AV)(c6:AV)(c7:AV)(c8:AV)(c9:AV)(c10:AV)(c11:AV)(a0:AV)(P:Hp->Ru->Af)(Q:Exit->Ru)(H:Hp):rdK (λcf=>MD (E L) R cf) 13 [(2,c2),(4,c4),(5,c5),(6,c6),(7,c7),(8,c8),(9,c9),(10,c10),(11,c11)] (AK).2.1 [a0] (AK).2.2.1 (AK).2.2.2 H P Q=Bx Ab Ae H λb c=>DE Ae b a0 c λd=>P d λa=>AE Am c2 a λe=>AE Ae b a λf=>GF Ab 68 Ae 1 [(0,68,f)] a λg h=>E0 Ab 68 Ae Am e g h λi j=>DE Am c2 i j λk=>Q .normal k:=by kernel_rfl
def Ci:JE Ru Wj:=λL R K g ih c a h=>Zx a h λi b=>C9 i 0 λj=>A2 j (eA a b λk=>C9 k 1 λl=>Bx Ab Ae b λd m=>DE Ae d l m λe=>AE Ae d e λn=>CH (E L) R c [n] e λo f=>MJ .not o λp=>A2 p (K (AV.tup []) f) (ih c a f)) (g b)
def Ch:JD Ru Wj:=JV z2N Ci
def XA1:Kr Ch Ci:=λ_ _ _ _ _=>rfl
def B5:Jf:=λL R a0 a1 H K=>AE Aj a1 H λa=>XP a H λb c=>jn (λd=>K (AV.tup []) d) λe=>Ch L R K e L a0 b c
def Ij:JE Ru kX:=λL R K h ih c d e f b a=>Aq Ad .lss b f λi=>A2 i (Ia Ac e b Ai a λj=>AE BP d a λk=>LG k λl=>DN 0 l Aj a λm=>Kk j λn=>Ye Ae false m n a λo=>Ap R LC [o] a λp=>CH (E L) R c [p] a λq g=>MJ .not q λr=>A2 r (K (AV.tup []) g) (Aq Ad .add b (A4 1) λs=>ih c d e f s g)) (h a)
def Ii:JD Ru kX:=JV z5N Ij
def PU:Kr Ii Ij:=λ_ _ _ _ _=>rfl
def I6:Y3N:=λL R a0 a1 a2 H K=>AE Ac a1 H λa=>Ba Ac a λb=>jn (λc=>K (AV.tup []) c) λd=>Ii L R K d L a0 a2 a b (A4 0) H
def OQ:Jc:=λL R a0 H K=>FV Ab a0 H λa k=>Bx Ab Ae k λe b=>CI 26 a λl=>DN 2 l A1 b λm=>Ap R Ee [m] b λn=>CI 26 a λo=>CI 2 o λp=>DE A1 p n b λf=>DN 31 a Ac f λq=>R.call AH [q] f λr s=>CI 31 a λt=>DE Ac t r s λc=>CI 32 a λu=>DN 1 u Ak c λv=>Ap R CE [v] c λw=>CI 32 a λx=>CI 1 x λy=>DE Ak y w c λd=>CI 32 a λz=>DN 2 z Av d λaa=>Ap R CF [aa] d λab=>CI 32 a λac=>CI 2 ac λad=>DE Av ad ab d λg=>CI 65 a λae=>DN 1 ae Ac g λaf=>R.call AH [af] g λag ah=>CI 65 a λai=>CI 1 ai λaj=>DE Ac aj ag ah λh=>CI 65 a λak=>DN 2 ak Ac h λal=>R.call AH [al] h λam an=>CI 65 a λao=>CI 2 ao λap=>DE Ac ap am an λi=>AE Ae a i λaq=>DE Ae e aq i λj=>AE Ae e j λar=>K ar j
def A4m:Jf:=λL R a0 a1 H K=>LF 100 L R a0 a1 H K _
def Xl:Jf:=λL R a0 a1 H K=>jn (λb c=>Aq Ad .rem b a1 λd=>K d c) λa=>Aq Ad .lss a0 (A4 0) λe=>A2 e (Aq Ad .add a0 (A4 1) λf=>MJ .neg f λg=>a g H) (a a0 H)
def Xg:Jf:=λL R a0 a1 H K=>jn (λb c=>Aq Ad .rem b a1 λd=>K d c) λa=>Aq Ad .lss a0 (A4 0) λe=>A2 e (Aq Ad .add a0 (A4 1) λf=>MJ .neg f λg=>a g H) (a a0 H)
def Hn:Y4N:=λL R a0 a1 a2 a3 H K=>q4N 106 L R a0 a1 a2 a3 H K _
def PT:JE Yg TG:=λL R K f ih b d c a=>Ba Bi b λg=>Aq Ad .lss c g λh=>A2 h (Ia Bi b c Ad a λi=>Ap R Ts [i] a λe=>C9 e 0 λj=>C9 e 1 λm=>Aq Ai .add d j λk=>Aq Ad .add c (A4 1) λl=>ih b k l a) (f d a)
def PR:JD Yg TG:=JV z3N PT
def fC:Kr PR PT:=λ_ _ _ _ _=>rfl
def Ra:Jc:=λL R a0 H K=>jn (λa b=>K a b) λc=>jn (λd e=>c d e) λf=>PR L R K f L a0 (XV []) (A4 0) H
def IS:Jc:=λL R a0 H K=>Ih 108 L R a0 H K _
def Uo:JE Wj TG:=λL R K g ih c f d a=>CI 26 c λh=>DN 2 h A1 a λi=>Ba A1 i λj=>Aq Ad .lss d j λk=>A2 k (CI 26 c λl=>DN 2 l A1 a λm=>Ia A1 m d BJ a λn=>Bx Bf BJ a λe o=>DE BJ e n o λb=>T6 0 e Ad b λp=>Ax (Z6 1 Ad 1 [(0,1,p)] AS) λq=>Ax (Ap R ES [q] b AS) λr=>Ax (Aq Ai .add f r AS) λs=>T6 1 e A3 b λt=>Ax (Ap R F3 [t] b AS) λu=>Ax (Aq Ai .add s u AS) λv=>Aq Ad .add d (A4 1) λw=>ih c v w b) (g c f a)
def Un:JD Wj TG:=JV z3N Uo
def pM:Kr Un Uo:=λ_ _ _ _ _=>rfl
def Xb:Jc:=λL R a0 H K=>FV Ab a0 H λd a=>DN 6 d A0 a λk=>Ap R JQ [k] a λg=>C9 g 0 λl=>C9 g 1 λaW=>T6 0 d Ad a λm=>T6 1 d Ad a λn=>T6 2 d Ad a λo=>T6 3 d Ad a λp=>T6 4 d Ad a λq=>T6 5 d Ad a λr=>Ax (Z6 1 Ad 6 [(0,1,m),(1,1,n),(2,1,o),(3,1,p),(4,1,q),(5,1,r)] AS) λs=>Ax (Ap R ES [s] a AS) λt=>Ax (Z6 1 Ai 1 [(0,1,l)] AS) λu=>Ax (Ap R Ho [u] a AS) λv=>Ax (Aq Ai .add t v AS) λw=>Ax (CI 26 d AS) λx=>T6 0 x A3 a λy=>Ax (Ap R F3 [y] a AS) λz=>Ax (Aq Ai .add w z AS) λaa=>Ax (CI 26 d AS) λab=>T6 2 ab A1 a λac=>Ax (Ba A1 ac AS) λad=>Ax (Z6 1 Ad 1 [(0,1,ad)] AS) λae=>Ax (Ap R ES [ae] a AS) λaf=>Ax (Aq Ai .add aa af AS) λag=>jn (λe ah b=>Ax (CI 26 e AS) λai=>T6 3 ai A3 b λaj=>Ax (Ap R F3 [aj] b AS) λak=>Ax (Aq Ai .add ah ak AS) λal=>T6 31 e Ac b λam=>Ax (Ba Ac am AS) λan=>Ax (Z6 1 Ad 1 [(0,1,an)] AS) λao=>Ax (Ap R ES [ao] b AS) λap=>Ax (Aq Ai .add al ap AS) λaq=>T6 31 e Ac b λar=>Ax (Ap R Ho [ar] b AS) λau=>Ax (Aq Ai .add aq au AS) λav=>DN 32 e AU b λaw=>Ap R JO [aw] b λh=>C9 h 0 λax=>C9 h 1 λaX=>Z6 1 Ai 1 [(0,1,ax)] λay=>Ap R Ho [ay] b λaz=>Aq Ai .add av az λi=>jn (λa1 a2=>K a1 a2) λj=>DN 0 e Ad b λa3=>Aq Ad .eql a3 (A4 3) λa4=>A2 a4 (DN 55 e Ef b λa5=>Bx Kz Ef b λf a6=>DE Ef f a5 a6 λc=>T6 0 f Ad c λa7=>Ax (Z6 1 Ad 1 [(0,1,a7)] AS) λa8=>Ax (Ap R ES [a8] c AS) λa9=>Ax (Aq Ai .add i a9 AS) λaA=>T6 1 f A3 c λaB=>Ax (Ap R F3 [aB] c AS) λaC=>Ax (Aq Ai .add aA aC AS) λaD=>T6 3 f A3 c λaE=>Ax (Ap R F3 [aE] c AS) λaF=>Ax (Aq Ai .add aD aF AS) λaG=>T6 5 f A3 c λaH=>Ax (Ap R F3 [aH] c AS) λaI=>Ax (Aq Ai .add aG aI AS) λaJ=>T6 7 f A3 c λaK=>Ax (Ap R F3 [aK] c AS) λaL=>Ax (Aq Ai .add aJ aL AS) λaM=>T6 64 e Ad c λaN=>Ax (Z6 1 Ad 1 [(0,1,aN)] AS) λaO=>Ax (Ap R ES [aO] c AS) λaP=>Ax (Aq Ai .add aM aP AS) λaQ=>j aQ c) (j i b)) λaR=>jn (λaS aT aU=>aR aS aT aU) λaV=>Un L R K aV L d ag (A4 0) a
def Oy:JE Yg Q9:=λL R K e ih b c f a d=>Aq Ad .geq a (A4 0) λg=>A2 g (Ba Ai b λh=>Aq Ad .mul (A4 8) h λi=>Aq Ad .mul (A4 8) a λj=>Aq Ad .shr i j λk=>Jk Ad Bq k λl=>GF B3 1 Bq 1 [(0,1,l)] d λm n=>E0 B3 1 Bq AZ c m n λo p=>Aq Ad .sub a (A4 1) λq=>ih b o f q p) (e c d)
def L5:JD Yg Q9:=JV rI Oy
def dG:Kr L5 Oy:=λ_ _ _ _ _=>rfl
def Ox:JE TG Q9:=λL R K e ih b a c f d=>Ba AZ a λg=>Aq Ad .rem g (A4 64) λh=>Aq Ad .neq h (A4 56) λi=>A2 i (GF B3 1 Bq 1 [(0,1,(AV.v (.int .u8 0)))] d λj k=>E0 B3 1 Bq AZ a j k λl m=>ih b l c f m) (e b a c d)
def Ov:JD TG Q9:=JV rI Ox
def dF:Kr Ov Ox:=λ_ _ _ _ _=>rfl
def Ow:JE Q9 Q9:=λL R K f ih a c b d e=>Ba Ai a λg=>Aq Ad .lss b g λh=>A2 h (kG Ai Ai a b λi=>GF B3 1 Bq 1 [(0,1,i)] e λj k=>E0 B3 1 Bq AZ c j k λl m=>Aq Ad .add b (A4 1) λn=>ih a l n d m) (f a c b d e)
def Ou:JD Q9 Q9:=JV rI Ow
def dE:Kr Ou Ow:=λ_ _ _ _ _=>rfl
def PZ:Jc:=λL R a0 H K=>jn (λa b c d e=>GF B3 1 Bq 1 [(0,1,(AV.v (.int .u8 128)))] e λf g=>E0 B3 1 Bq AZ b f g λh i=>jn (λj k l m=>jn (λn o=>K n o) λp=>jn (λq r=>p q r) λs=>L5 L R K s L j k l (A4 7) m) λt=>jn (λu w x y=>t u w x y) λz=>Ov L R K z L a h c d i) λaa=>jn (λab ac ad ae af=>aa ab ac ad ae af) λag=>Ou L R K ag L a0 TH (A4 0) AV.dk H
def SH:JE Yg gK:=λL R K f ih c g h i j k d l e a b=>Aq Ad .lss a (A4 8) λm=>A2 m (Kx AJ c a Ao b λn=>Kx AJ d a Ao b λo=>Ax (Aq Ao .add n o AS) λp=>Ei (GF Cs 1 Ao 1 [(0,1,p)] b λv H=>some (v,H)) λq r=>Ei (E0 Cs 1 Ao AJ e q r λv H=>some (v,H)) λs t=>Aq Ad .add a (A4 1) λu=>ih c g h i j k d l s u t) (f e b)
def SD:JD Yg gK:=JV A3t SH
def mE:Kr SD SH:=λ_ _ _ _ _=>rfl
def SG:JE zH gK:=λL R K m ih h i f j k g b e n o a=>Aq Ad .lss e (A4 64) λp=>A2 p (D4 AJ b (A4 0) λq=>AE Ao q a λc=>D4 AJ b (A4 4) λr=>AE Ao r a λd=>Ax (D4 AJ b (A4 7) AS) λs=>Ax (AE Ao s a AS) λt=>Ax (Ap R D7 [d,(A4 6)] a AS) λu=>Ax (Ap R D7 [d,(A4 11)] a AS) λw=>Ax (Aq Ao .xor u w AS) λx=>Ax (Ap R D7 [d,(A4 25)] a AS) λy=>Ax (Aq Ao .xor x y AS) λz=>Ax (Aq Ao .add t z AS) λaa=>Ax (D4 AJ b (A4 5) AS) λab=>Ax (AE Ao ab a AS) λac=>Ax (Aq Ao .and d ac AS) λad=>Ax (MJ .xor d AS) λae=>Ax (D4 AJ b (A4 6) AS) λaf=>Ax (AE Ao af a AS) λag=>Ax (Aq Ao .and ae ag AS) λah=>Ax (Aq Ao .xor ad ah AS) λai=>Ax (Aq Ao .add aa ai AS) λaj=>Kx AJ g e Ao a λak=>Ax (Aq Ao .add aj ak AS) λal=>Kx AJ f e Ao a λam=>Ax (Aq Ao .add al am AS) λl=>Ax (Ap R D7 [c,(A4 2)] a AS) λan=>Ax (Ap R D7 [c,(A4 13)] a AS) λao=>Ax (Aq Ao .xor an ao AS) λap=>Ax (Ap R D7 [c,(A4 22)] a AS) λaq=>Ax (Aq Ao .xor ap aq AS) λar=>Ax (D4 AJ b (A4 1) AS) λau=>Ax (AE Ao au a AS) λav=>Ax (Aq Ao .and c av AS) λaw=>Ax (D4 AJ b (A4 2) AS) λax=>Ax (AE Ao ax a AS) λay=>Ax (Aq Ao .and c ay AS) λaz=>Ax (Aq Ao .xor aw az AS) λa0=>Ax (D4 AJ b (A4 1) AS) λa1=>Ax (AE Ao a1 a AS) λa2=>Ax (D4 AJ b (A4 2) AS) λa3=>Ax (AE Ao a3 a AS) λa4=>Ax (Aq Ao .and a2 a4 AS) λa5=>Ax (Aq Ao .xor a0 a5 AS) λa6=>Ax (Aq Ao .add ar a6 AS) λa7=>Ax (Aq Ao .add l a7 AS) λa8=>Ax (D4 AJ b (A4 1) AS) λa9=>Ax (AE Ao a9 a AS) λaA=>Ax (D4 AJ b (A4 2) AS) λaB=>Ax (AE Ao aB a AS) λaC=>Ax (D4 AJ b (A4 3) AS) λaD=>Ax (AE Ao aD a AS) λaE=>Ax (Aq Ao .add aE l AS) λaF=>Ax (D4 AJ b (A4 5) AS) λaG=>Ax (AE Ao aG a AS) λaH=>Ax (D4 AJ b (A4 6) AS) λaI=>Ax (AE Ao aI a AS) λaJ=>Ei (GF Cs 1 Ao 8 [(0,1,a8),(1,1,c),(2,1,aA),(3,1,aC),(4,1,aF),(5,1,d),(6,1,aH),(7,1,aJ)] a λv H=>some (v,H)) λaK aL=>Aq Ad .add e (A4 1) λaM=>ih h i f j k g aK aM n o aL) (m h i f j k g b e a)
def SC:JD zH gK:=JV A3t SG
def mD:Kr SC SG:=λ_ _ _ _ _=>rfl
def SF:JE F7N gK:=λL R K i ih d e c f b j k l g h a=>Aq Ad .lss b (A4 64) λm=>A2 m (Ax (Aq Ad .sub b (A4 15) AS) λn=>Kx AJ c n Ao a λo=>Ax (Ap R D7 [o,(A4 7)] a AS) λp=>Ax (Aq Ad .sub b (A4 15) AS) λq=>Kx AJ c q Ao a λr=>Ax (Ap R D7 [r,(A4 18)] a AS) λs=>Ax (Aq Ao .xor p s AS) λt=>Ax (Aq Ad .sub b (A4 15) AS) λu=>Kx AJ c u Ao a λw=>Ax (Aq Ao .shr w (AV.v (.int .u64 3)) AS) λx=>Ax (Aq Ao .xor t x AS) λy=>Ax (Aq Ad .sub b (A4 2) AS) λz=>Kx AJ c z Ao a λaa=>Ax (Ap R D7 [aa,(A4 17)] a AS) λab=>Ax (Aq Ad .sub b (A4 2) AS) λac=>Kx AJ c ac Ao a λad=>Ax (Ap R D7 [ad,(A4 19)] a AS) λae=>Ax (Aq Ao .xor ab ae AS) λaf=>Ax (Aq Ad .sub b (A4 2) AS) λag=>Kx AJ c ag Ao a λah=>Ax (Aq Ao .shr ah (AV.v (.int .u64 10)) AS) λai=>Ax (Aq Ao .xor af ai AS) λaj=>Ax (Aq Ad .sub b (A4 16) AS) λak=>Kx AJ c ak Ao a λal=>Ax (Aq Ao .add al y AS) λam=>Ax (Aq Ad .sub b (A4 7) AS) λan=>Kx AJ c an Ao a λao=>Ax (Aq Ao .add am ao AS) λap=>Ax (Aq Ao .add ap aj AS) λaq=>Ei (GF Cs 1 Ao 1 [(0,1,aq)] a λv H=>some (v,H)) λar au=>Ei (E0 Cs 1 Ao AJ c ar au λv H=>some (v,H)) λav aw=>Aq Ad .add b (A4 1) λax=>ih d e av f ax j k l g h aw) (i d e c f b g h a)
def SB:JD F7N gK:=JV A3t SF
def mC:Kr SB SF:=λ_ _ _ _ _=>rfl
def SE:JE F9N gK:=λL R K k ih d b e a l f g h i j c=>Aq Ad .lss a (A4 16) λm=>A2 m (Ax (Aq Ad .mul (A4 4) a AS) λn=>Kx AZ b n Bq c λo=>Ax (Jk Bq Ao o AS) λp=>Ax (Aq Ao .shl p (AV.v (.int .u64 24)) AS) λq=>Ax (Aq Ad .mul (A4 4) a AS) λr=>Ax (Aq Ad .add r (A4 1) AS) λs=>Kx AZ b s Bq c λt=>Ax (Jk Bq Ao t AS) λu=>Ax (Aq Ao .shl u (AV.v (.int .u64 16)) AS) λw=>Ax (Aq Ao .or q w AS) λx=>Ax (Aq Ad .mul (A4 4) a AS) λy=>Ax (Aq Ad .add y (A4 2) AS) λz=>Kx AZ b z Bq c λaa=>Ax (Jk Bq Ao aa AS) λab=>Ax (Aq Ao .shl ab (AV.v (.int .u64 8)) AS) λac=>Ax (Aq Ao .or x ac AS) λad=>Ax (Aq Ad .mul (A4 4) a AS) λae=>Ax (Aq Ad .add ae (A4 3) AS) λaf=>Kx AZ b af Bq c λag=>Ax (Jk Bq Ao ag AS) λah=>Ax (Aq Ao .or ad ah AS) λai=>Ei (GF Cs 1 Ao 1 [(0,1,ai)] c λv H=>some (v,H)) λaj ak=>Ei (E0 Cs 1 Ao AJ e aj ak λv H=>some (v,H)) λal am=>Aq Ad .add a (A4 1) λan=>ih d b al an l f g h i j am) (k d b e a f g h i j c)
def S0:JD F9N gK:=JV A3t SE
def mB:Kr S0 SE:=λ_ _ _ _ _=>rfl
def UN:Jf:=λL R a0 a1 H K=>jn (λc d e f g h i j k l=>jn (λa m n o p q r b=>Ap R Pf [] b λs=>E0 Cs 1 Ao AJ TH a b λt u=>jn (λv w x y z aa ab ac ad=>jn (λae af=>K ae af) λag=>jn (λah ai=>ag ah ai) λaj=>SD L R K aj L v w x y z aa ab ac TH (A4 0) ad) λak=>jn (λal am an ao ap aq ar au av=>ak al am an ao ap aq ar au av) λaw=>SC L R K aw L a m n o p s t (A4 0) q r u) λax=>jn (λay az a2 a3 a4 a5 a6 a7=>ax ay az a2 a3 a4 a5 a6 a7) λa8=>SB L R K a8 L c d e f (A4 16) g h i j k l) λa9=>jn (λaA aB aC aD aE aF aG aH aI aJ=>a9 aA aB aC aD aE aF aG aH aI aJ) λaK=>S0 L R K aK L a0 a1 TH (A4 0) AV.dk AV.dk AV.dk AV.dk AV.dk AV.dk H
def LW:Jc:=λL R a0 H K=>Ih 114 L R a0 H K _
def Ki:Jf:=λL R a0 a1 H K=>LG a0 λe=>DN 0 e Aj H λf=>R.call Br [f] H λg h=>R.call BG [g] h λi b=>Ap R Jw [i] b λj=>GF A7 1 Ac 2 [(0,1,a1),(1,1,j)] b λk l=>R.call Gv [k] l λc m=>R.call AM [c] m λw n=>R.call Cx [c] n λa d=>Ba Ac a λo=>Aq Ad .eql o (A4 0) λp=>A2 p (K TH d) (Ba Ac a λq=>eMM true q (A4 64) λr=>D3 Ac a none (some r) none λs=>Cb AI [(0,1,(A4 2)),(1,1,s)] λt=>GF A5 3 AI 1 [(0,3,t)] d λu v=>K u v)
def K5:Jf:=λL R a0 a1 H K=>LF 116 L R a0 a1 H K _
def HJ:Jf:=λL R a0 a1 H K=>LF 117 L R a0 a1 H K _
def FG:JE Wj Q9:=λL R K g ih e d b c a=>Ba Ac b λh=>Aq Ad .lss c h λi=>A2 i (jn (λj k=>Aq Ad .add c (A4 1) λl=>ih e j b l k) λm=>jn (λn o=>m n o) λf=>Kx Ac b c Ai a λp=>Ax (Aq Ad .sub c (A4 1) AS) λq=>Kx Ac b q Ai a λr=>Ax (Aq Ai .neq p r AS) λs=>A2 s (Ia Ac b c Ai a λt=>D4 Ac e d λu=>DE Ai u t a λv=>Aq Ad .add d (A4 1) λw=>f w v) (f d a)) (g e d a)
def FF:JD Wj Q9:=JV rI FG
def ME:Kr FF FG:=λ_ _ _ _ _=>rfl
def Em:JE Yg Q9:=λL R K f ih a b g h c=>Ba Ac a λi=>Aq Ad .lss b i λj=>A2 j (Kx Ac a b Ai c λk=>Ax (Aq Ad .sub b (A4 1) AS) λl=>Kx Ac a l Ai c λm=>Ax (Aq Ai .eql k m AS) λn=>A2 n (D3 Ac a (some b) none none λo=>jn (λd e p=>D3 Ac d (some e) none none λq=>wI 1 Ai q p λr=>D3 Ac d none (some e) none λs=>K s r) λt=>jn (λu v w=>t u v w) λx=>FF L R K x L a b o (A4 1) c) (Aq Ad .add b (A4 1) λy=>ih a y g h c)) (f a c)
def El:JD Yg Q9:=JV rI Em
def Ix:Kr El Em:=λ_ _ _ _ _=>rfl
def Ew:Jc:=λL R a0 H K=>Ba Ac a0 λa=>Aq Ad .lss a (A4 2) λb=>A2 b (K a0 H) (jn (λc d=>K c d) λe=>jn (λf g=>e f g) λh=>El L R K h L a0 (A4 1) AV.dk AV.dk H)
def DH:JE Ru Wj:=λL R K e ih c a f=>Zx a f λg b=>C9 g 0 λh=>A2 h (eA a b λi=>C9 i 0 λj=>CH (E L) R c [j] b λk d=>MJ .not k λl=>A2 l (K (AV.tup []) d) (ih c a d)) (e b)
def DG:JD Ru Wj:=JV z2N DH
def Jq:Kr DG DH:=λ_ _ _ _ _=>rfl
def DP:Jf:=λL R a0 a1 H K=>AE CM a1 H λa=>XP a H λb c=>jn (λd=>K (AV.tup []) d) λe=>DG L R K e L a0 b c
def Bs:Operand×Array Tmp×Code×Code:=XW (C4Y) 0
def CD:Jf:=λL R a0 a1 H K=>FV A7 a0 H λa e=>jn (λf c=>AE Ac f c λg=>K g c) λh=>jn (λi j=>h i j) λd=>pH R 13 a1 [(2,a),(4,TH),(5,AV.dk),(6,a1),(7,AV.dk),(8,AV.dk),(9,AV.dk),(10,AV.dk),(11,AV.dk)] (Bs).2.1 (Bs).2.2.1 (Bs).2.2.2 e λk b=>oU k (d a b) (K TH b) (λl=>@Bool.rec (λ_=>Af) (none) (d a b) (Nat.beq l 0)) (λ_=>none)
def Hz(L:Nat)(R:Rt)(c2:AV)(c4:AV)(c5:AV)(c6:AV)(c7:AV)(c8:AV)(c9:AV)(c10:AV)(c11:AV)(a0:AV)(P:Hp->Ru->Af)(Q:Exit->Ru)(H:Hp):rdK (λcf=>MD (E L) R cf) 13 [(2,c2),(4,c4),(5,c5),(6,c6),(7,c7),(8,c8),(9,c9),(10,c10),(11,c11)] (Bs).2.1 [a0] (Bs).2.2.1 (Bs).2.2.2 H P Q=P H λa=>AE Ac c2 a λb=>GF Au 1 Ai 1 [(0,1,a0)] a λc d=>E0 Au 1 Ai Ac b c d λe f=>DE Ac c2 e f λg=>Q .normal g:=by kernel_rfl
def Db:JE Ru Wj:=λL R K e ih c a f=>Zx a f λg b=>C9 g 0 λh=>A2 h (eA a b λi=>C9 i 0 λj=>CH (E L) R c [j] b λk d=>MJ .not k λl=>A2 l (K (AV.tup []) d) (ih c a d)) (e b)
def Cr:JD Ru Wj:=JV z2N Db
def HL:Kr Cr Db:=λ_ _ _ _ _=>rfl
def Dg:Jf:=λL R a0 a1 H K=>AE Aj a1 H λa=>XP a H λb c=>jn (λd=>K (AV.tup []) d) λe=>Cr L R K e L a0 b c
def LX:Y3N:=λL R a0 a1 a2 H K=>q3N 128 L R a0 a1 a2 H K _
def Te:Jc:=λL R a0 H K=>Ih 130 L R a0 H K _
def JL:Jc:=λL R a0 H K=>Ih 131 L R a0 H K _
def Dy:JE Yg F9N:=λL R K f ih g h c i j k d e a b=>Aq Ad .lss a e λl=>A2 l (Ia ER d a Ac b λm=>E0 Au 1 Ai Ac c m b λn o=>Aq Ad .add a (A4 1) λp=>ih g h n i j k d e p o) (f c b)
def FP:JD Yg F9N:=JV z9N Dy
def Fv:Kr FP Dy:=λ_ _ _ _ _=>rfl
def Dx:JE kX F9N:=λL R K h ih e f i b c a j k l d=>Aq Ad .lss a c λm=>A2 m (jn (λn o=>Aq Ad .add a (A4 1) λp=>ih e n i b c p j k l o) λq=>jn (λr s=>q r s) λt=>Ia ER b a Ac d λu=>Ba Ac u λv=>Aq Ad .add f v λg=>Aq Ad .lss g (A4 0) λw=>A2 w (none) (t g d)) (h e f b c a d)
def Jj:JD kX F9N:=JV z9N Dx
def Fu:Kr Jj Dx:=λ_ _ _ _ _=>rfl
def Gg:Jc:=λL R a0 H K=>jn (λa b c d e f=>R.call Fa [TH,b] f λg h=>jn (λi j=>K i j) λk=>Ba ER a λl=>jn (λm n=>k m n) λo=>FP L R K o L a b g c d e a l (A4 0) h) λp=>Ba ER a0 λq=>jn (λr s t u v w=>p r s t u v w) λx=>Jj L R K x L a0 (A4 0) AV.dk a0 q (A4 0) AV.dk AV.dk AV.dk H
def PY:Jc:=λL R a0 H K=>Ih 136 L R a0 H K _
def A7x:Operand×Array Tmp×Code×Code:=XW (C4X) 0
def yG:Jc:=λL R a0 H K=>Ih 137 L R a0 H K _
def GD:Jf:=λL R a0 a1 H K=>R.call Kw [a0] H λj a=>LG a0 λb=>DN 1 b AZ a λc=>E0 B3 1 Bq Ai c a1 a λd e=>LG a0 λf=>CI 1 f λg=>DE AZ g d e λh=>Ba Ai a1 λi=>K (AV.tup [i,(AV.v .nilIface)]) h
def mU:Jc:=λL R a0 H K=>Ih 141 L R a0 H K _
def OG:Jc:=λL R a0 H K=>Ih 144 L R a0 H K _
def iQ:JE Yg kX:=λL R K h ih d e f g a b=>Aq Ad .lss a g λi=>A2 i (Ia FL f a Aa b λj=>CH (E L) R j [d] b λk c=>LG k λl=>AE Ad l c λm=>Ap R BZ [m] c λn=>Aq Ai .add (XV [32]) n λo=>Aq Ai .add e o λp=>Aq Ad .add a (A4 1) λq=>ih d p f g q c) (h e b)
def iP:JD Yg kX:=JV z5N iQ
def Qa:Jc:=λL R a0 H K=>FV AX a0 H λb c=>Ax (Ap R IB [] c AS) λe=>Ax (CI 0 b AS) λh=>Ax (AE Ad h c AS) λf=>Ax (XB .i64 f λm=>Ye B2 false e m c AS) λi=>Ei (Bx CG B2 c λv H=>some (v,H)) λg d=>Ei (DE B2 g i d λH=>some (AV.v undef,H)) λag a=>RQ (Bj (Ap R IB [] d AS) e) (RQ (Bj (AE Ad h d AS) f) (RQ (Bj (XB .i64 f λn=>Ye B2 false e n d AS) i) (DN 0 g Ai a λj=>DN 0 b Ad a λo=>Aq Ad .eql o (A4 1) λp=>A2 p (DN 3 b A0 a λq=>Ap R J3 [q] a λk=>C9 k 0 λr=>C9 k 1 λah=>Aq Ai .add j (XV [32]) λs=>DN 1 b A3 a λt=>Ap R IQ [t] a λu=>Aq Ai .add s u λw=>Aq Ai .add w (XV [32]) λx=>Aq Ai .add x r λy=>K y a) (jn (λz aa=>K z aa) λab=>DN 1 g FL a λl=>Ba FL l λac=>jn (λad ae=>ab ad ae) λaf=>iP L R K af L b j l ac (A4 0) a))))
def FR:JE Ru Q9:=λL R K h ih f c d a b=>AE AZ c b λi=>Ba AZ i λj=>Aq Ad .lss a j λk=>A2 k (Ax (AE Ad d b AS) λl=>Ax (AE AZ c b AS) λm=>Ax (D3 AZ m (some a) none none AS) λn=>Ax (Ba AZ n AS) λo=>Ax (eMM true l o AS) λg=>AE AZ c b λp=>Aq Ad .add a g λq=>Aq Ad .add a g λr=>D3 AZ p (some a) (some q) (some r) λs=>CH (E L) R f [s] b λt e=>MJ .not t λu=>A2 u (K (AV.tup []) e) (AE Ad d e λv=>Aq Ad .add a v λw=>ih f c d w e)) (h b)
def FQ:JD Ru Q9:=JV rI FR
def MR:Kr FQ FR:=λ_ _ _ _ _=>rfl
def Gi:Y3N:=λL R a0 a1 a2 H K=>jn (λa=>K (AV.tup []) a) λb=>FQ L R K b L a0 a1 a2 (A4 0) H
def NM:JE Yg Q9:=λL R K f ih g b c h a=>Aq Ad .lss c (A4 64) λi=>A2 i (Ax (Aq Ad .sub c (A4 15) AS) λj=>Kx Cv b j Ao a λd=>Ax (Aq Ad .sub c (A4 2) AS) λk=>Kx Cv b k Ao a λe=>Ax (Aq Ad .sub c (A4 16) AS) λl=>Kx Cv b l Ao a λm=>Ax (Z6 1 Ad 2 [(0,1,(A4 7)),(1,1,(A4 18))] AS) λn=>Ax (Ap R EP [d,n] a AS) λo=>Ax (Aq Ao .shr d (AV.v (.int .u64 3)) AS) λp=>Ax (Aq Ao .xor o p AS) λq=>Ax (Aq Ao .add m q AS) λr=>Ax (Aq Ad .sub c (A4 7) AS) λs=>Kx Cv b s Ao a λt=>Ax (Aq Ao .add r t AS) λu=>Ax (Z6 1 Ad 2 [(0,1,(A4 17)),(1,1,(A4 19))] AS) λw=>Ax (Ap R EP [e,w] a AS) λx=>Ax (Aq Ao .shr e (AV.v (.int .u64 10)) AS) λy=>Ax (Aq Ao .xor x y AS) λz=>Ax (Aq Ao .add u z AS) λaa=>Ax (D4 Cv b c AS) λab=>Ei (DE Ao ab aa a λH=>some (AV.v undef,H)) λae ac=>Aq Ad .add c (A4 1) λad=>ih g b ad h ac) (f b a)
def NK:JD Yg Q9:=JV rI NM
def Z8:Kr NK NM:=λ_ _ _ _ _=>rfl
def NL:JE TG Q9:=λL R K e ih b d f a c=>Aq Ad .lss a (A4 16) λg=>A2 g (Ax (Aq Ad .mul (A4 4) a AS) λh=>Kx AZ b h Bq c λi=>Ax (Jk Bq Ao i AS) λj=>Ax (Aq Ao .shl j (AV.v (.int .u64 24)) AS) λk=>Ax (Aq Ad .mul (A4 4) a AS) λl=>Ax (Aq Ad .add l (A4 1) AS) λm=>Kx AZ b m Bq c λn=>Ax (Jk Bq Ao n AS) λo=>Ax (Aq Ao .shl o (AV.v (.int .u64 16)) AS) λp=>Ax (Aq Ao .or k p AS) λq=>Ax (Aq Ad .mul (A4 4) a AS) λr=>Ax (Aq Ad .add r (A4 2) AS) λs=>Kx AZ b s Bq c λt=>Ax (Jk Bq Ao t AS) λu=>Ax (Aq Ao .shl u (AV.v (.int .u64 8)) AS) λw=>Ax (Aq Ao .or q w AS) λx=>Ax (Aq Ad .mul (A4 4) a AS) λy=>Ax (Aq Ad .add y (A4 3) AS) λz=>Kx AZ b z Bq c λaa=>Ax (Jk Bq Ao aa AS) λab=>Ax (Aq Ao .or x ab AS) λac=>Ax (D4 Cv d a AS) λad=>Ei (DE Ao ad ac c λH=>some (AV.v undef,H)) λag ae=>Aq Ad .add a (A4 1) λaf=>ih b d f af ae) (e b d a c)
def NJ:JD TG Q9:=JV rI NL
def Z7:Kr NJ NL:=λ_ _ _ _ _=>rfl
def OR:Jc:=λL R a0 H K=>Bx Dm Cv H λd e=>jn (λf g h i=>jn (λa b=>AE Cv a b λj=>DE Cv a j b λc=>AE Cv a c λk=>K k c) λl=>jn (λm n=>l m n) λo=>NK L R K o L f g (A4 16) h i) λp=>jn (λq r s t=>p q r s t) λu=>NJ L R K u L a0 d AV.dk (A4 0) e
def Rp:JE Yg kX:=λL R K g ih c d e f b a=>Aq Ad .lss b f λh=>A2 h (Ia Bi e b Ad a λi=>MJ .neg i λj=>Ap R Hr [c,j] a λk=>Aq Ao .xor d k λl=>Aq Ad .add b (A4 1) λm=>ih c l e f m a) (g d a)
def Ro:JD Yg kX:=JV z5N Rp
def kL:Kr Ro Rp:=λ_ _ _ _ _=>rfl
def Tb:Jf:=λL R a0 a1 H K=>jn (λa b=>K a b) λc=>Ba Bi a1 λd=>jn (λe f=>c e f) λg=>Ro L R K g L a0 (AV.v (.int .u32 0)) a1 d (A4 0) H
def X! :Jf:=λL R a0 a1 H K=>LF 149 L R a0 a1 H K _
def qK:Jc:=λL R a0 H K=>Ih 150 L R a0 H K _
def A1X:Jf:=λL R a0 a1 H K=>LF 156 L R a0 a1 H K _
def OB:Y3N:=λL R a0 a1 a2 H K=>FV Co a0 H λav aw=>FV AX a1 aw λa y=>DN 0 a Ad y λax=>Cb AP [(0,1,ax)] λay=>Bx AX AP y λb az=>DE AP b ay az λc=>DN 0 a Ad c λd=>Aq Ad .eql d (A4 1) λa3=>A2 a3 (DN 1 a A3 c λa4=>CI 1 b λa5=>DE A3 a5 a4 c λz=>DN 3 a A0 z λa6=>CI 3 b λa7=>DE A0 a7 a6 z λe=>DN 1 a A3 e λa8=>Ap R F6 [a8] e λa9=>DN 3 a A0 e λaA=>Ap R F5 [aA] e λaB=>AE AP a e λaC=>AE AP b e λaD=>Vg IL .eql aC aD λaa=>D5 aa e (some (a9,e)) λaE ab=>Cj aa aE FW λac=>D5 ac ab (some (aB,ab)) λaF aG=>Cj ac aF FW λaH=>K (AV.tup [aH,FW]) aG) (Aq Ad .eql d (A4 2) λaI=>A2 aI (DN 23 a Ad c λaJ=>CI 23 b λaK=>DE Ad aK aJ c λm=>AE AP a m λaL=>AE AP b m λaM=>Vg IL .eql aL aM λg=>Yo g m 23 a Ad λaN aO=>Yo g aO 1 av Ak λaP ad=>D5 g ad (Ba Ak aP (Dq ad)) λaQ ae=>D5 g ae (Aq Ad .sub aQ (A4 1) (Dq ae)) λaR n=>D5 g n (Ap R DB [aN,(A4 0),aR] n (Dq n)) λaS aT=>Cj g aS FW λaU=>K (AV.tup [aU,FW]) aT) (jn (λaV f=>A2 aV (DN 24 a Ad f λaW=>CI 24 b λaX=>DE Ad aX aW f λaf=>DN 25 a Ad af λaY=>CI 25 b λaZ=>DE Ad aZ aY af λo=>AE AP a o λba=>AE AP b o λbb=>Vg IL .eql ba bb λh=>Yo h o 24 a Ad λbc ag=>D5 h ag (some (a2,ag)) λbd ah=>D5 h ah (Aq Ad .sub bd (A4 1) (Dq ah)) λbe p=>D5 h p (Ap R DB [bc,(A4 0),be] p (Dq p)) λbf bg=>Cj h bf FW λi=>Yo i bg 25 a Ad λbh ai=>D5 i ai (some (a2,ai)) λbi aj=>D5 i aj (Aq Ad .sub bi (A4 1) (Dq aj)) λbj q=>D5 i q (Ap R DB [bh,(A4 0),bj] q (Dq q)) λbk bl=>Cj i bk FW λbm=>K (AV.tup [bm,Ks]) bl) (Aq Ad .eql d (A4 7) λbn=>A2 bn (DN 24 a Ad f λbo=>CI 24 b λbp=>DE Ad bp bo f λak=>DN 23 a Ad ak λbq=>CI 23 b λbr=>DE Ad br bq ak λr=>AE AP a r λbs=>AE AP b r λbt=>Vg IL .eql bs bt λj=>Yo j r 24 a Ad λbu al=>D5 j al (some (a2,al)) λbv am=>D5 j am (Aq Ad .sub bv (A4 1) (Dq am)) λbw s=>D5 j s (Ap R DB [bu,(A4 0),bw] s (Dq s)) λbx bz=>Cj j bx FW λt=>Yo t bz 23 a Ad λb0 u=>D5 t u (Ap R DB [b0,(A4 (-4)),(A4 4)] u (Dq u)) λb1 b2=>Cj t b1 FW λv=>Yo v b2 23 a Ad λb3 an=>D5 v an (Aq Ad .neq b3 (A4 0) (Dq an)) λb4 b5=>Cj v b4 FW λb6=>K (AV.tup [b6,Ks]) b5) (Aq Ad .eql d (A4 8) λb7=>A2 b7 (DN 24 a Ad f λb8=>CI 24 b λb9=>DE Ad b9 b8 f λw=>AE AP a w λbA=>AE AP b w λbB=>Vg IL .eql bA bB λk=>Yo k w 24 a Ad λbC ao=>D5 k ao (some (a2,ao)) λbD ap=>D5 k ap (Aq Ad .sub bD (A4 1) (Dq ap)) λbE x=>D5 k x (Ap R DB [bC,(A4 0),bE] x (Dq x)) λbF bG=>Cj k bF FW λbH=>K (AV.tup [bH,Ks]) bG) (K (AV.tup [FW,FW]) f)))) λl=>Aq Ad .eql d (A4 3) λaq=>A2 aq (l aq c) (Aq Ad .eql d (A4 4) λar=>A2 ar (l ar c) (Aq Ad .eql d (A4 5) λau=>A2 au (l au c) (Aq Ad .eql d (A4 6) λbI=>l bI c)))))
def vF:Jc:=λL R a0 H K=>Ih 162 L R a0 H K _
def Sz:JE Ru Wj:=λL R K ai ih g c d=>DN 2 g A1 d λaj=>Ba A1 aj λak=>Aq Ad .lss c ak λal=>A2 al (DN 2 g A1 d λam=>Ia A1 am c BJ d λan=>Bx Bf BJ d λb ao=>DE BJ b an ao λh=>DN 1 b A3 h λap=>Ap R F6 [ap] h λaq=>Ax (MJ .not aq AS) λe=>Fg e h (Ax (CI 1 b AS) (Dq h)) λar k=>Fg e k (Ax (AE A3 ar k AS) (Dq k)) λau l=>Fg e l (Ax (Ap R MX [(A4 0)] l AS) (Dq l)) λav r=>Fg e r (Ax (Vg JA .eql au av AS) (Dq r)) λaw s=>Ax (Cj e Ks aw AS) λi=>Fg i s (Ax (CI 0 b AS) (Dq s)) λax m=>Fg i m (Ax (AE Ad ax m AS) (Dq m)) λay t=>Fg i t (Ax (Aq Ad .lss ay (A4 1) AS) (Dq t)) λaz u=>Ax (Cj i Ks az AS) λj=>Fg j u (Ax (CI 0 b AS) (Dq u)) λa0 n=>Fg j n (Ax (AE Ad a0 n AS) (Dq n)) λa1 v=>Fg j v (Ax (Aq Ad .gtr a1 (A4 1000000) AS) (Dq v)) λa2 w=>Ax (Cj j Ks a2 AS) λf=>Fg f w (some (c,w)) λa3 x=>Fg f x (Ax (Aq Ad .gtr a3 (A4 0) AS) (Dq x)) λa4 y=>Fg f y (some (a4,y)) λa z=>D5 a z (Ax (CI 2 g AS) (Dq z)) λa5 o=>D5 a o (Ax (AE A1 a5 o AS) (Dq o)) λa6 aa=>D5 a aa (some (c,aa)) λa7 ab=>D5 a ab (Ax (Aq Ad .sub a7 (A4 1) AS) (Dq ab)) λa8 ac=>D5 a ac (Ax (D4 A1 a6 a8 AS) (Dq ac)) λa9 ad=>D5 a ad (Ax (CI 0 a9 AS) (Dq ad)) λaA p=>D5 a p (Ax (AE Ad aA p AS) (Dq p)) λaB ae=>D5 a ae (Ax (CI 0 b AS) (Dq ae)) λaC q=>D5 a q (Ax (AE Ad aC q AS) (Dq q)) λaD af=>D5 a af (Ax (Aq Ad .geq aB aD AS) (Dq af)) λaE ag=>Fg f ag (Ax (Cj a aE FW AS) (Dq ag)) λaF ah=>Ax (Cj f Ks aF AS) λaG=>A2 aG (K FW ah) (Aq Ad .add c (A4 1) λaH=>ih g aH ah)) (ai d)
def Sy:JD Ru Wj:=JV z2N Sz
def mA:Kr Sy Sz:=λ_ _ _ _ _=>rfl
def UM:Jc:=λL R a0 H K=>FV Ek a0 H λc a=>DN 0 c A3 a λq=>Ap R F6 [q] a λr=>DN 3 c A3 a λs=>Ap R F6 [s] a λt=>Ax (MJ .not r AS) λe=>Fg e a (some (t,a)) λu j=>Fg e j (Ax (MJ .not u AS) (Dq j)) λv k=>Ax (Cj e Ks v AS) λb=>Fg b k (Ax (CI 3 c AS) (Dq k)) λw f=>Fg b f (Ax (AE A3 w f AS) (Dq f)) λx g=>Fg b g (Ax (Ap R MX [(A4 0)] g AS) (Dq g)) λy h=>Fg b h (Ax (Ap R Rl [x,y] h AS) (Dq h)) λz l=>Fg b l (Ax (Aq Ad .lss z (A4 0) AS) (Dq l)) λaa m=>Ax (Cj b Ks aa AS) λd=>Fg d m (Ax (CI 2 c AS) (Dq m)) λab i=>Fg d i (Ax (AE A1 ab i AS) (Dq i)) λac n=>Fg d n (Ax (Ba A1 ac AS) (Dq n)) λad o=>Fg d o (Ax (Aq Ad .gtr ad (A4 64) AS) (Dq o)) λae p=>Ax (Cj d Ks ae AS) λaf=>A2 af (K FW p) (jn (λag=>K Ks ag) λah=>jn (λai=>ah ai) λaj=>Sy L R K aj L c (A4 0) p)
def SN:Y3N:=λL R a0 a1 a2 H K=>q3N 165 L R a0 a1 a2 H K _
def Mr:JE TG TG:=λL R K e ih a c d b=>Aq Ad .lss d c λf=>A2 f (Kx Ac a d Ai b λg=>Kx Ac a c Ai b λh=>Ax (Aq Ai .eql g h AS) λi=>A2 i (Ba Ac a λj=>K (AV.tup [FW,j]) b) (Aq Ad .add d (A4 1) λk=>ih a c k b)) (e a c d b)
def Mp:JD TG TG:=JV z3N Mr
def So:Kr Mp Mr:=λ_ _ _ _ _=>rfl
def Mt:JE Yg TG:=λL R K d ih a c aa b=>Ba Ac a λe=>Aq Ad .lss c e λf=>A2 f (jn (λg h i j=>Aq Ad .add h (A4 1) λk=>ih g k i j) λl=>jn (λm n o p=>l m n o p) λq=>Ia Ac a c Ai b λr=>Ba Ai r λs=>Aq Ad .neq s (A4 32) λt=>A2 t (Ba Ac a λu=>K (AV.tup [FW,u]) b) (jn (λv w x y=>q v w x y) λz=>Mp L R K z L a c (A4 0) b)) (d a b)
def Mq:JD Yg TG:=JV z3N Mt
def Sp:Kr Mq Mt:=λ_ _ _ _ _=>rfl
def Nf:Jc:=λL R a0 H K=>jn (λb c=>Ba Ac b λf=>Aq Ad .geq f (A4 1) λa=>D5 a c (some (b,c)) λg d=>D5 a d (Ba Ac g (Dq d)) λh e=>D5 a e (Aq Ad .leq h (A4 6) (Dq e)) λi j=>Cj a i FW λk=>Ba Ac b λl=>K (AV.tup [k,l]) j) λm=>jn (λn o=>m n o) λp=>Mq L R K p L a0 (A4 0) AV.dk H
def UJ:Jc:=λL R a0 H K=>Ih 168 L R a0 H K _
def Ot:JE Yg TG:=λL R K f ih b d c a=>Ba Ac b λg=>Aq Ad .lss c g λh=>A2 h (Ia Ac b c Ai a λi=>Ap R Pg [i] a λe=>C9 e 0 λj=>C9 e 1 λm=>Aq Ai .add d j λk=>Aq Ad .add c (A4 1) λl=>ih b k l a) (f d a)
def Sm:JD Yg TG:=JV z3N Ot
def VC:Kr Sm Ot:=λ_ _ _ _ _=>rfl
def Qx:Jc:=λL R a0 H K=>jn (λa b=>K a b) λc=>jn (λd e=>c d e) λf=>Sm L R K f L a0 (XV []) (A4 0) H
def UI:Jc:=λL R a0 H K=>Ih 171 L R a0 H K _
def Sv:JE Wj Q9:=λL R K e ih b d f c a=>DN 2 b Av a λg=>Ba Av g λh=>Aq Ad .lss c h λi=>A2 i (DN 2 b Av a λj=>Ia Av j c AP a λk=>Ap R J5 [k] a λl=>Aq Ai .add d l λm=>Aq Ai .add m (XV [10]) λn=>Aq Ad .add c (A4 1) λo=>ih b n f o a) (e b d a)
def Ss:JD Wj Q9:=JV rI Sv
def lY:Kr Ss Sv:=λ_ _ _ _ _=>rfl
def Su:JE TG Q9:=λL R K f ih b d c g a=>DN 1 b Ak a λh=>Ba Ak h λi=>Aq Ad .lss c i λj=>A2 j (DN 1 b Ak a λk=>Ia Ak k c A0 a λl=>Ap R JQ [l] a λe=>C9 e 0 λm=>C9 e 1 λr=>Aq Ai .add d (XV [103,105,118,101,110,32]) λn=>Aq Ai .add n m λo=>Aq Ai .add o (XV [10]) λp=>Aq Ad .add c (A4 1) λq=>ih b p q g a) (f b d c a)
def Sq:JD TG Q9:=JV rI Su
def lW:Kr Sq Su:=λ_ _ _ _ _=>rfl
def UK:Jc:=λL R a0 H K=>FV Co a0 H λb a=>AE AU b a λe=>Ap R Gb [e] a λf=>MJ .not f λg=>A2 g (K (AV.tup [(XV []),(A4 90)]) a) (DN 0 b Ad a λh=>Ap R Cl [h] a λi=>Aq Ai .add (XV [112,114,111,99,101,100,117,114,101,32]) i λj=>Aq Ai .add j (XV [10]) λk=>jn (λl m n o=>jn (λp q c=>DN 3 p A0 c λr=>Ap R JQ [r] c λd=>C9 d 0 λs=>C9 d 1 λah=>Aq Ai .add q (XV [111,117,116,112,117,116,32]) λt=>Aq Ai .add t s λu=>Aq Ai .add u (XV [10]) λv=>K (AV.tup [v,(A4 0)]) c) λw=>jn (λx y z=>w x y z) λaa=>Ss L R K aa L l m n (A4 0) o) λab=>jn (λac ad ae af=>ab ac ad ae af) λag=>Sq L R K ag L b k (A4 0) AV.dk a)
def Rb:Jf:=λL R a0 a1 H K=>LF 176 L R a0 a1 H K _
def OC:Y0N:=λL R H K=>q0N 177 L R H K _
def mT:Jc:=λL R a0 H K=>Ih 194 L R a0 H K _
def NC:Jc:=λL R a0 H K=>Ih 199 L R a0 H K _
def HQ:JE Ru kX:=λL R K ae ih i d j k b e=>Aq Ad .lss b k λaf=>A2 af (Ia A1 j b BJ e λag=>Bx Bf BJ e λl ah=>DE BJ l ag ah λm=>AE BJ l m λai=>CH (E L) R d [ai] m λf n=>Aq Ad .lss f (A4 1) λg=>Fg g n (some (f,n)) λaj o=>Fg g o (Aq Ad .gtr aj (A4 1000000) (Dq o)) λak p=>Cj g Ks ak λc=>Fg c p (some (b,p)) λal q=>Fg c q (Aq Ad .gtr al (A4 0) (Dq q)) λam r=>Fg c r (some (am,r)) λa s=>D5 a s (some (d,s)) λan t=>D5 a t (some (i,t)) λao u=>D5 a u (some (b,u)) λap w=>D5 a w (Aq Ad .sub ap (A4 1) (Dq w)) λaq x=>D5 a x (eMM false aq (A4 0) (Dq x)) λar y=>D5 a y (D4 A1 ao ar (Dq y)) λau h=>D5 a h (AE BJ au h (Dq h)) λav z=>D5 a z (CH (E L) R an [av] z λv H=>some (v,H)) λaw aa=>D5 a aa (some (f,aa)) λax ab=>D5 a ab (Aq Ad .geq aw ax (Dq ab)) λay ac=>Fg c ac (Cj a ay FW (Dq ac)) λaz ad=>Cj c Ks az λa0=>A2 a0 (K FW ad) (Aq Ad .add b (A4 1) λa1=>ih i d j k a1 ad)) (ae e)
def HP:JD Ru kX:=JV z5N HQ
def PE:Kr HP HQ:=λ_ _ _ _ _=>rfl
def Iq:Jf:=λL R a0 a1 H K=>jn (λa=>K Ks a) λb=>Ba A1 a0 λc=>jn (λd=>b d) λe=>HP L R K e L a0 a1 a0 c (A4 0) H
def Rg:Jc:=λL R a0 H K=>Ih 203 L R a0 H K _
def Er:Jf:=λL R a0 a1 H K=>LF 204 L R a0 a1 H K _
def JM:Jc:=λL R a0 H K=>Ap R Gu [a0] H λm=>R.call D9 [m] H λn c=>Ba Ac a0 λo=>Ap R FJ [o,(A4 1),(A4 6)] c λb=>D5 b c (some (a0,c)) λp e=>D5 b e (some ((AV.fn (.func Ev) [] []),e)) λq d=>D5 b d (Ap R B8 [p,q] d (Dq d)) λr f=>D5 b f (MJ .not r (Dq f)) λs g=>Cj b s FW λa=>D5 a g (some (n,g)) λt h=>D5 a h (R.call Cx [t] h λv H=>some (v,H)) λu i=>D5 a i (Ba Ac u (Dq i)) λw j=>D5 a j (some (a0,j)) λx k=>D5 a k (Ba Ac x (Dq k)) λy l=>D5 a l (Aq Ad .eql w y (Dq l)) λz aa=>Cj a z FW λab=>K ab aa
def yF:Jc:=λL R a0 H K=>Ih 212 L R a0 H K _
def HH:Jc:=λL R a0 H K=>LG a0 λa=>DN 0 a Cu H λb=>RN Cu BQ .eql b (AV.v (.pointer none)) λc=>A2 c (A2A BQ a0 H λd=>A2v A4x EB d H λe=>LG a0 λf=>CI 0 f λg=>DE Cu g e H λh=>K (AV.tup []) h) (LG a0 λi=>DN 0 i Cu H λj=>RN Cu BQ .neq j a0 λk=>A2 k (none) (K (AV.tup []) H))
def Nx:JE Wj kX:=λL R K j ih d b e f a c=>Aq Ad .lss a f λk=>A2 k (Ia Av e a AP c λl=>Bx AX AP c λg m=>DE AP g l m λh=>AE AP g h λn=>R.call Jr [b,n] h λo i=>MJ .not o λp=>A2 p (K (AV.tup [TH,a,(A4 90)]) i) (Aq Ad .add a (A4 1) λq=>ih d b e f q i)) (j d b c)
def Nw:JD Wj kX:=JV z5N Nx
def YN:Kr Nw Nx:=λ_ _ _ _ _=>rfl
def OI:Jc:=λL R a0 H K=>FV Co a0 H λa k=>DN 0 a Ad k λw=>Aq Ad .lss w (A4 1) λg=>OV g k 0 a Ad λx l=>Fg g l (Aq Ad .gtr x (A4 1000000) (Dq l)) λy z=>Cj g Ks y λc=>OV c z 1 a Ak λaa m=>Fg c m (Ba Ak aa (Dq m)) λab n=>Fg c n (Aq Ad .gtr ab (A4 6) (Dq n)) λac ad=>Cj c Ks ac λd=>OV d ad 1 a Ak λae o=>Fg d o (some ((AV.fn (.func GL) [] []),o)) λaf h=>Fg d h (Ap R Dl [ae,af] h (Dq h)) λag ah=>Cj d Ks ag λe=>OV e ah 2 a Av λai p=>Fg e p (Ba Av ai (Dq p)) λaj q=>Fg e q (Aq Ad .lss aj (A4 1) (Dq q)) λak al=>Cj e Ks ak λf=>OV f al 2 a Av λam r=>Fg f r (Ba Av am (Dq r)) λan s=>Fg f s (Aq Ad .gtr an (A4 40) (Dq s)) λao i=>Cj f Ks ao λap=>A2 ap (K (AV.tup [TH,(A4 (-1)),(A4 90)]) i) (DN 1 a Ak i λaq=>R.call Ph [aq] i λar t=>jn (λu j b=>Ax (LG j AS) λau=>T6 2 au Ak b λav=>Ax (LG j AS) λaw=>T6 2 aw Ak b λax=>Ax (Ba Ak ax AS) λay=>Ax (Aq Ad .sub ay (A4 1) AS) λaz=>Kx Ak av az A0 b λa1=>T6 3 u A0 b λa2=>Ax (Vg IJ .neq a1 a2 AS) λa3=>A2 a3 (T6 2 u Av b λa4=>Ax (Ba Av a4 AS) λa5=>K (AV.tup [TH,a5,(A4 90)]) b) (LG j λa6=>DN 2 a6 Ak b λa7=>K (AV.tup [a7,(A4 0),(A4 0)]) b)) λa8=>DN 2 a Av t λv=>Ba Av v λa9=>jn (λaA aB aC=>a8 aA aB aC) λaD=>Nw L R K aD L a ar v a9 (A4 0) t)
def JJ:Jf:=λL R a0 a1 H K=>LF 218 L R a0 a1 H K _
def yP:Jc:=λL R a0 H K=>Ih 219 L R a0 H K _
def qL:Jf:=λL R a0 a1 H K=>LF 220 L R a0 a1 H K _
def A1Z:Jf:=λL R a0 a1 H K=>LF 222 L R a0 a1 H K _
def A20:Jf:=λL R a0 a1 H K=>LF 223 L R a0 a1 H K _
def X_:Jf:=λL R a0 a1 H K=>LF 224 L R a0 a1 H K _
def yK:Jc:=λL R a0 H K=>Ih 228 L R a0 H K _
def A1Y:Jf:=λL R a0 a1 H K=>LF 229 L R a0 a1 H K _
def SP:Y3N:=λL R a0 a1 a2 H K=>q3N 230 L R a0 a1 a2 H K _
def vE:Jc:=λL R a0 H K=>Ih 234 L R a0 H K _
def qH:Jf:=λL R a0 a1 H K=>LF 235 L R a0 a1 H K _
def Sx:JE Wj TG:=λL R K n ih b e c a=>DN 2 b Av a λo=>Ba Av o λp=>Aq Ad .lss c p λq=>A2 q (Ax (AE AU b a AS) λf=>Ax (CI 2 b AS) λj=>Ax (AE Av j a AS) λk=>Ax (D4 Av k c AS) λl=>Ax (AE AP l a AS) λg=>Ax (Ap R CN [f,g,c,e] a AS) λh=>Ax (C9 h 0 AS) λr=>Ax (C9 h 1 AS) λs=>Ei (Bx AB A0 a λv H=>some (v,H)) λm d=>Ei (DE A0 m r d λH=>some (AV.v undef,H)) λab i=>RQ (Bj (AE AU b d AS) f) (RQ (Bj (AE Av j d AS) k) (RQ (Bj (AE AP l d AS) g) (RQ (Bj (Ap R CN [f,g,c,e] d AS) h) (Aq Ad .neq s (A4 0) λt=>A2 t (K (AV.tup [TH,c,(A4 90)]) i) (AE A0 m i λu=>GF AB 20 A0 1 [(0,20,u)] i λw x=>E0 AB 20 A0 Ak e w x λy z=>Aq Ad .add c (A4 1) λaa=>ih b y aa z)))))) (n b e a)
def Sw:JD Wj TG:=JV z3N Sx
def lZ:Kr Sw Sx:=λ_ _ _ _ _=>rfl
def UL:Jc:=λL R a0 H K=>FV Co a0 H λd b=>AE AU d b λg=>Ap R Pe [g] b λe=>C9 e 0 λh=>C9 e 1 λv=>MJ .not h λi=>A2 i (K (AV.tup [TH,(A4 (-1)),(A4 90)]) b) (jn (λf c a=>Ax (Ba Ak c AS) λj=>Ax (Aq Ad .sub j (A4 1) AS) λk=>Kx Ak c k A0 a λl=>T6 3 f A0 a λm=>Ax (Vg IJ .neq l m AS) λn=>A2 n (T6 2 f Av a λo=>Ax (Ba Av o AS) λp=>K (AV.tup [TH,p,(A4 90)]) a) (K (AV.tup [c,(A4 0),(A4 0)]) a)) λq=>jn (λr s t=>q r s t) λu=>Sw L R K u L d TH (A4 0) b)
def yL:Jc:=λL R a0 H K=>Ih 241 L R a0 H K _
def OD:Jc:=λL R a0 H K=>Ih 243 L R a0 H K _
def Xk:Jc:=λL R a0 H K=>Ih 245 L R a0 H K _
def qQ:Jc:=λL R a0 H K=>Ih 253 L R a0 H K _
def jB:Jf:=λL R a0 a1 H K=>LF 254 L R a0 a1 H K _
def yU:Jf:=λL R a0 a1 H K=>LF 255 L R a0 a1 H K _
def yV:Jf:=λL R a0 a1 H K=>LF 256 L R a0 a1 H K _
def E8:JE Ru Q9:=λL R K g ih c d e a b=>Aq Ad .lss a e λh=>A2 h (Ia A1 c a BJ b λi=>CH (E L) R d [i] b λj f=>A2 j (K a f) (Aq Ad .add a (A4 1) λk=>ih c d e k f)) (g b)
def E7:JD Ru Q9:=JV rI E8
def K1:Kr E7 E8:=λ_ _ _ _ _=>rfl
def EI:Jf:=λL R a0 a1 H K=>jn (λa=>K (A4 (-1)) a) λb=>Ba A1 a0 λc=>jn (λd=>b d) λe=>E7 L R K e L a0 a1 c (A4 0) H
def Ip:Jc:=λL R a0 H K=>Ih 260 L R a0 H K _
def Gf:Jc:=λL R a0 H K=>Ih 261 L R a0 H K _
end
section
attribute [local irreducible] Ei Ax A2 Bx E0 K? zF Z6 Go.Abs.Aq FV GF Cb wI Jk A2K eA Vg RN Go.Abs.C9 CI A0l D4 kG AE Ba Ye kC Zy eMM Ld Mg eMk Zx A2A XP A2z zD D3 DE A2v A8i A4Q Go.Abs.MJ gdV jn XB Kk LG RQ oU Cj rdK XW pH Bj Ap I3 undef UInt8.ofNat
def eT(L:Nat)(R:Rt)(K:KV)(ih:Wj):Wj:=λd a b=>AE G8 a b λh=>Aq G8 .lss h (AV.v (.int .u64 128)) λe=>AE G8 a b λi=>Aq G8 .and i (AV.v (.int .u64 127)) λj=>Jk G8 Bq j λk=>CH (E L) R d [k,e] b λl f=>MJ .not l λg=>Fg g f (some (e,f)) λm c=>Cj g Ks m λn=>A2 n (K (AV.tup []) c) (AE G8 a c λo=>Aq G8 .shr o (AV.v (.int .u64 7)) λp=>DE G8 a p c λq=>ih d a q)
def eS(L:Nat)(R:Rt)(K:KV)(n:Nat):Wj:=lpN z2N (eT L R K) n
def iU:Jf:=λL R a0 a1 H K=>eS L R K L a0 a1 H
def Lu:Jc:=λL R a0 H K=>Ih 268 L R a0 H K _
def Ep:Jf:=λL R a0 a1 H K=>LF 269 L R a0 a1 H K _
def OE:Jc:=λL R a0 H K=>Ih 270 L R a0 H K _
def Jo:Jf:=λL R a0 a1 H K=>FV AX a1 H λe b=>Ax (LG a0 AS) λx=>Ax (CI 0 x AS) λn=>Ax (AE DV n b AS) λf=>Ax (CI 0 e AS) λo=>Ax (AE Ad o b AS) λg=>Ax (XB .i64 g λy=>Ye B2 true f y b AS) λh=>Ax (C9 h 0 AS) λz=>Ax (C9 h 1 AS) λaa=>Ei (Bx CG B2 b λv H=>some (v,H)) λi c=>Ei (DE B2 i z c λH=>some (AV.v undef,H)) λaz p=>RQ (Bj (AE DV n c AS) f) (RQ (Bj (AE Ad o c AS) g) (RQ (Bj (XB .i64 g λab=>Ye B2 true f ab c AS) h) (MJ .not aa λa=>Fg a p (some (a0,p)) λac j=>Fg a j (AE B2 i j (Dq j)) λad k=>Fg a k (AE AP e k (Dq k)) λae l=>Fg a l (Ap R Ca [ac,ad,ae] l (Dq l)) λaf q=>Fg a q (MJ .not af (Dq q)) λag d=>Cj a Ks ag λah=>A2 ah (K FW d) (DN 2 i Aa d λai=>AE AP e d λaj=>CH (E L) R ai [a0,aj] d λr ak=>C9 r 0 λal=>C9 r 1 λam=>Bx AB A0 ak λs an=>DE A0 s al an λm=>Ax (LG a0 AS) λao=>Ax (CI 2 ao AS) λt=>Ax (AE Ak t m AS) λu=>Ax (AE A0 s m AS) λap=>Ei (GF AB 20 A0 1 [(0,20,ap)] m λv H=>some (v,H)) λaq w=>Ei (E0 AB 20 A0 Ak u aq w λv H=>some (v,H)) λar au=>Ax (LG a0 AS) λav=>Ax (CI 2 av AS) λaw=>Ei (DE Ak aw ar au λH=>some (AV.v undef,H)) λa2 ax=>RQ (Bj (AE Ak t w AS) u) (Aq Ad .eql am (A4 0) λay=>K ay ax)))))
def GU:Jf:=λL R a0 a1 H K=>LF 274 L R a0 a1 H K _
def Jn:Jf:=λL R a0 a1 H K=>LF 277 L R a0 a1 H K _
def Gj:Jf:=λL R a0 a1 H K=>LF 278 L R a0 a1 H K _
def HI:Jf:=λL R a0 a1 H K=>LF 279 L R a0 a1 H K _
def GT:Jf:=λL R a0 a1 H K=>LF 280 L R a0 a1 H K _
def I5:Jf:=λL R a0 a1 H K=>FV AX a1 H λb l=>Bx AB A0 l λc f=>DN 23 b Ad f λm=>Aq Ad .eql m (A4 0) λd=>OV d f 23 b Ad λn g=>Fg d g (Aq Ad .lss n (A4 (-4)) (Dq g)) λo p=>Cj d Ks o λe=>OV e p 23 b Ad λq h=>Fg e h (Aq Ad .gtr q (A4 4) (Dq h)) λr a=>Cj e Ks r λs=>A2 s (Cb A0 [] λt=>DE A0 c t a λi=>AE A0 c i λu=>K (AV.tup [u,(A4 90)]) i) (Ax (LG a0 AS) λw=>T6 2 w Ak a λx=>T6 24 b Ad a λy=>Kx Ak x y A0 a λz=>T6 23 b Ad a λaa=>Ax (Cb Wo [(0,1,aa),(1,1,(A4 1))] AS) λab=>Ax (Ap R Tr [z,ab] a AS) λj=>Ax (C9 j 0 AS) λac=>Ax (C9 j 1 AS) λad=>Ei (DE A0 c ac a λH=>some (AV.v undef,H)) λaf k=>AE A0 c k λae=>K (AV.tup [ae,ad]) k)
def vB:Jc:=λL R a0 H K=>Ih 283 L R a0 H K _
def yN:Jf:=λL R a0 a1 H K=>LF 284 L R a0 a1 H K _
def qI:Jf:=λL R a0 a1 H K=>LF 286 L R a0 a1 H K _
def qJ:Jf:=λL R a0 a1 H K=>LF 287 L R a0 a1 H K _
def yO:Jf:=λL R a0 a1 H K=>LF 289 L R a0 a1 H K _
def A1W:Jf:=λL R a0 a1 H K=>LF 290 L R a0 a1 H K _
def yM:Jf:=λL R a0 a1 H K=>LF 291 L R a0 a1 H K _
def vA:Jc:=λL R a0 H K=>Ih 292 L R a0 H K _
def QX:JE Yg Wj:=λL R K d ih b c a=>DN 1 b Ak a λe=>Ba Ak e λf=>Aq Ad .lss c f λg=>A2 g (DN 1 b Ak a λh=>Ia Ak h c A0 a λi=>Ap R F5 [i] a λj=>MJ .not j λk=>A2 k (T6 2 b Av a λl=>Ax (Ba Av l AS) λm=>Ax (Aq Ad .gtr m (A4 0) AS) λn=>K (AV.tup [FW,n]) a) (Aq Ad .add c (A4 1) λo=>ih b o a)) (d b a)
def QW:JD Yg Wj:=JV z2N QX
def iM:Kr QW QX:=λ_ _ _ _ _=>rfl
def SQ:Jc:=λL R a0 H K=>FV Co a0 H λm n=>jn (λc d=>T6 0 c Ad d λo=>Ax (Ap R DB [o,(A4 1),(A4 1000000)] d AS) λa=>D5 a d (Ax (CI 1 c AS) (Dq d)) λp e=>D5 a e (Ax (AE Ak p e AS) (Dq e)) λq h=>D5 a h (Ax (Ba Ak q AS) (Dq h)) λr i=>D5 a i (Ax (Aq Ad .leq r (A4 6) AS) (Dq i)) λs j=>Ax (Cj a s FW AS) λb=>D5 b j (Ax (CI 2 c AS) (Dq j)) λt f=>D5 b f (Ax (AE Av t f AS) (Dq f)) λu k=>D5 b k (Ax (Ba Av u AS) (Dq k)) λv g=>D5 b g (Ax (Ap R DB [v,(A4 1),(A4 40)] g AS) (Dq g)) λw l=>Ax (Cj b w FW AS) λx=>T6 2 c Av l λy=>Ax (Ba Av y AS) λz=>Ax (Aq Ad .gtr z (A4 0) AS) λaa=>K (AV.tup [x,aa]) l) λab=>jn (λac ad=>ab ac ad) λae=>QW L R K ae L m (A4 0) n
def iZ:Jc:=λL R a0 H K=>Ih 299 L R a0 H K _
def vI:Jf:=λL R a0 a1 H K=>LF 300 L R a0 a1 H K _
def rO:Operand×Array Tmp×Code×Code:=XW (C4S) 0
def UT:Jf:=λL R a0 a1 H K=>LF 301 L R a0 a1 H K _
def xZ:Operand×Array Tmp×Code×Code:=XW (C4R) 0
def Ym:Jf:=λL R a0 a1 H K=>LF 302 L R a0 a1 H K _
def xY:Operand×Array Tmp×Code×Code:=XW (C4Q) 0
def Yl:Jc:=λL R a0 H K=>Ih 303 L R a0 H K _
def Xs:Jf:=λL R a0 a1 H K=>LF 306 L R a0 a1 H K _
def yR:Jf:=λL R a0 a1 H K=>LF 307 L R a0 a1 H K _
def EM:JE Ru Q9:=λL R K g ih c d e a b=>Aq Ad .lss a e λh=>A2 h (Ia Ac d a Ai b λi=>CH (E L) R c [i] b λj f=>MJ .not j λk=>A2 k (K (AV.tup []) f) (Aq Ad .add a (A4 1) λl=>ih c d e l f)) (g b)
def EL:JD Ru Q9:=JV rI EM
def Lm:Kr EL EM:=λ_ _ _ _ _=>rfl
def EZ:Jf:=λL R a0 a1 H K=>AE Ac a1 H λa=>Ba Ac a λb=>jn (λc=>K (AV.tup []) c) λd=>EL L R K d L a0 a b (A4 0) H
def E6:JE Ru Q9:=λL R K g ih c d e a b=>Aq Ad .lss a e λh=>A2 h (Ia Ak c a A0 b λi=>CH (E L) R d [i] b λj f=>A2 j (K a f) (Aq Ad .add a (A4 1) λk=>ih c d e k f)) (g b)
def E5:JD Ru Q9:=JV rI E6
def K0:Kr E5 E6:=λ_ _ _ _ _=>rfl
def EH:Jf:=λL R a0 a1 H K=>jn (λa=>K (A4 (-1)) a) λb=>Ba Ak a0 λc=>jn (λd=>b d) λe=>E5 L R K e L a0 a1 c (A4 0) H
def X?:Jc:=λL R a0 H K=>Ih 324 L R a0 H K _
def qP:Jc:=λL R a0 H K=>Ih 329 L R a0 H K _
def MF:Jc:=λL R a0 H K=>Ih 331 L R a0 H K _
def US:Jc:=λL R a0 H K=>Ih 332 L R a0 H K _
def dO:Jf:=λL R a0 a1 H K=>LF 333 L R a0 a1 H K _
def TN:Y3N:=λL R a0 a1 a2 H K=>Ax (AE Aa a1 H AS) λc=>Ax (Aq Ad .add a0 (A4 1) AS) λd=>Ei (CH (E L) R c [d] H λv H=>some (v,H)) λe a=>Ax (AE Bi a2 a AS) λb=>Ax (Ap R Ve [e,b] a AS) λf=>Ax (Aq Ad .gtr f (A4 0) AS) λg=>RQ (Bj (AE Bi a2 H AS) b) (K g a)
def Qo:JE Yg kX:=λL R K m ih f g h i b j=>Aq Ad .lss b f λc=>Fg c j (some (g,j)) λn k=>Fg c k (Aq Ad .neq n (A4 0) (Dq k)) λo l=>Cj c Ks o λp=>A2 p (CH (E L) R h [b] l λq d=>Aq Ad .add q g λa=>jn (λr s t=>GF Hh 1 Ad 1 [(0,1,s)] t λu v=>E0 Hh 1 Ad Bi i u v λw x=>Aq Ad .add b (A4 1) λy=>ih f r h w y x) λe=>Aq Ad .lss a (A4 0) λz=>A2 z (Aq Ad .add a (A4 10000) λaa=>e (A4 (-1)) aa d) (Aq Ad .geq a (A4 10000) λab=>A2 ab (Aq Ad .quo a (A4 10000) λac=>Aq Ad .rem a (A4 10000) λad=>e ac ad d) (e (A4 0) a d))) (m i l)
def Qn:JD Yg kX:=JV z5N Qo
def QH:Y3N:=λL R a0 a1 a2 H K=>Aq Ad .add a0 (A4 1) λa=>eMk Hh 1 Ad (A4 0) a H λb c=>jn (λd e=>K d e) λf=>jn (λg h=>f g h) λi=>Qn L R K i L a0 a1 a2 b (A4 0) c
def dP:Jf:=λL R a0 a1 H K=>LF 339 L R a0 a1 H K _
def SY:Y3N:=λL R a0 a1 a2 H K=>q3N 340 L R a0 a1 a2 H K _
def qN:Jf:=λL R a0 a1 H K=>LF 341 L R a0 a1 H K _
def jA:Jc:=λL R a0 H K=>Ih 342 L R a0 H K _
def K4:JE Ru TG:=λL R K f ih c d a b=>Aq Ad .geq a (A4 0) λg=>A2 g (AE Bi d b λh=>Ia Bi h a Ad b λi=>CH (E L) R c [a,i] b λj e=>MJ .not j λk=>A2 k (K (AV.tup []) e) (Aq Ad .sub a (A4 1) λl=>ih c d l e)) (f b)
def K3:JD Ru TG:=JV z3N K4
def KZ:Jf:=λL R a0 a1 H K=>AE Bi a1 H λa=>Ba Bi a λb=>Aq Ad .sub b (A4 1) λc=>jn (λd=>K (AV.tup []) d) λe=>K3 L R K e L a0 a1 c H
def VM:Y3N:=λL R a0 a1 a2 H K=>q3N 371 L R a0 a1 a2 H K _
def TK:Y3N:=λL R a0 a1 a2 H K=>q3N 374 L R a0 a1 a2 H K _
def Zc:Y4N:=λL R a0 a1 a2 a3 H K=>LG a0 λb=>DN 0 b Wn H λc=>A2 c (K (XV []) H) (CH (E L) R a1 [a2,a3] H λa d=>C9 a 0 λe=>C9 a 1 λf=>Aq Ad .neq f (A4 0) λg=>LG a0 λh=>CI 0 h λi=>DE Wn i g d λj=>K e j)
def SR:Y3N:=λL R a0 a1 a2 H K=>q3N 392 L R a0 a1 a2 H K _
def Qb:Jf:=λL R a0 a1 H K=>LF 402 L R a0 a1 H K _
end
end Go.Proofs
end
