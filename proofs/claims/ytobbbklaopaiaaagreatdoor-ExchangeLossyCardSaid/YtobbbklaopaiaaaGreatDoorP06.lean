import Derived.KernelRfl
import Derived.Test.YtobbbklaopaiaaaGreatDoorP05
set_option linter.all false
set_option maxHeartbeats 100000000
noncomputable section
namespace Go.Proofs
open Go.Abs
set_option maxRecDepth 100000
section
attribute [local irreducible] D5 Ar A2 Bz E5 KD xL YE Go.Abs.Ap Hr GM Ca uN Jc A1S ZE Xp Rs Go.Abs.C9 CY B1p Ds iO AD Bm Zi iK YC eMM LC Mm eMk YB A1J WN A1I xK C8 E4 A1E A7i A3X Go.Abs.Mv gdV jn Ws LW Lh Ra mW Ck rdK WY nQ Bc Ao J4 undef UInt8.ofNat
def Ko:JZ WV F7N:=λL R K ac ih l p e f ad q g r=>Bm Bj l λae=>Ap Ab .lss g ae λm=>Dk m r (some (g,r)) λaf s=>Dk m s (Ap Ab .lss af (A3 30) (CZ s)) λag d=>Ck m ag HS λah=>A2 ah (jn (λai aj ak=>Ap Ab .add g (A3 1) λal=>ih l p e f ai aj al ak) λam=>jn (λan ao ap=>am an ao ap) λn=>HR Bj l g Ab d λaq=>Ao R LZ [aq,(A3 64)] d λb=>J4 R BL [e] d λar=>GM Aq 3 Au 1 [(0,3,ar)] d λau av=>KD Aq 3 Au Ah ad au av λc o=>jn (λa t=>Ap Ab .rem b (A3 2) λaw=>Ap Ab .eql aw (A3 0) λh=>Dk h t (some (a,t)) λax u=>Dk h u (Bm Ah ax (CZ u)) λay w=>Dk h w (Ap Ab .gtr ay (A3 0) (CZ w)) λaz i=>Ck h az HS λa0=>A2 a0 (Ap Ab .quo b (A3 4) λa1=>Bm Ah a λa2=>Ap Ab .rem a1 a2 λj=>HR Ah a j Au i λa3=>R.call AI [e,a3] i λa4 a5=>KD Aq 3 Au Ah c a4 a5 λa6 x=>jn (λa7 a8=>n a6 a7 a8) λy=>Ap Ab .geq b (A3 32) λa9=>A2 a9 (Ar (C8 Ah a none (some j) (some j) AL) λaA=>Ar (Ap Ab .add j (A3 1) AL) λaB=>Ar (C8 Ah a (some aB) none none AL) λaC=>D5 (KD Aq 3 Au Ah aA aC x λv H=>some (v,H)) λaD aE=>y aD aE) (y a x)) (Ap Ab .quo b (A3 4) λaF=>Bm Ah c λaG=>Ap Ab .rem aF aG λk=>HR Ah c k Au i λaH=>R.call AI [f,aH] i λaI aJ=>KD Aq 3 Au Ah a aI aJ λz aa=>Ap Ab .geq b (A3 32) λaK=>A2 aK (Ar (C8 Ah c none (some k) (some k) AL) λaL=>Ar (Ap Ab .add k (A3 1) AL) λaM=>Ar (C8 Ah c (some aM) none none AL) λaN=>D5 (KD Aq 3 Au Ah aL aN aa λv H=>some (v,H)) λaO aP=>n aO z aP) (n c z aa))) λab=>Ap Ab .rem b (A3 4) λaQ=>Ap Ab .eql aQ (A3 0) λaR=>A2 aR (J4 R BL [f] o λaS=>GM Aq 3 Au 1 [(0,3,aS)] o λaT aU=>KD Aq 3 Au Ah q aT aU λaV aW=>ab aV aW) (ab q o)) (ac p e f d)
def CE:JY WV F7N:=Ky z7N Ko
theorem Uq:KU CE Ko:=λ_ _ _ _ _=>rfl
def KO:Y4N:=λL R a0 a1 a2 a3 H K=>Ao R Rm [] H λq=>Ao R WI [a0] H λe=>R.call L5 [e,a1] H λf r=>C9 f 0 λs=>C9 f 1 λt=>R.call L5 [e,a2] r λg h=>C9 g 0 λu=>C9 g 1 λv=>Mv .not t λb=>Hl b h (some (v,h)) λw i=>Hl b i (Mv .not w (CZ i)) λx j=>Ck b Mf x λy=>A2 y (K HS j) (jn (λk l m z=>R.call WJ [l,m,(A3 30)] z λc n=>C9 c 0 λan=>C9 c 1 λao=>C9 c 2 λaa=>Dk k n (some (aa,n)) λab o=>Ck k ab HS λa=>Dk a o (some (m,o)) λac p=>Dk a p (some (l,p)) λad d=>Dk a d (Ao R L6 [ac,ad] d (CZ d)) λae af=>Ck a ae HS λag=>K ag af) λah=>jn (λai aj ak al=>ah ai aj ak al) λam=>CE L R K am L a3 q s u Te Te (A3 0) j)
def Wg:Y0N:=λL R H K=>Ca B7 [] λbn=>Ca B7 [] λbo=>Ao R I7 [bn,bo,Te,Te] H λbp=>Bz Ad Ae H λn bq=>E4 Ae n bp bq λo=>Ca B7 [(0,1,(A3 1)),(1,1,(A3 0)),(2,1,(A3 1)),(3,1,(A3 0)),(4,1,(A3 0)),(5,1,(A3 0))] λbr=>Ca B7 [(0,1,(A3 3)),(1,1,(A3 3)),(2,1,(A3 3)),(3,1,(A3 0)),(4,1,(A3 0)),(5,1,(A3 0))] λbs=>AD Ae n o λbt=>Ao R GW [bt] o λbu=>YE 1 Ak 1 [(0,1,bu)] λbv=>Ao R I7 [br,bs,Te,bv] o λbw=>Bz Ad Ae o λh bx=>E4 Ae h bw bx λx=>AD Ae h x λbz=>AD Ae n x λb0=>YE 68 Ae 2 [(0,68,bz),(68,68,b0)] λb1=>R.call L5 [b1,(A3 3)] x λay b2=>C9 ay 0 λp=>C9 ay 1 λb3=>R.call O0 [] b2 λa az=>Mv .not b3 λy=>Hl y az (some (p,az)) λb4 a0=>Hl y a0 (Rs BF CU .eql b4 (AV.v (.pointer none)) (CZ a0)) λb5 a1=>Ck y Mf b5 λz=>Hl z a1 (some (a,a1)) λb6 a2=>Hl z a2 (Rs BF CU .eql b6 (AV.v (.pointer none)) (CZ a2)) λb7 b8=>Ck z Mf b7 λq=>dP q b8 31 h Ac λb9 a3=>Hl q a3 (Bm Ac b9 (CZ a3)) λbA a4=>Hl q a4 (Ap Ab .neq bA (A3 1) (CZ a4)) λbB r=>Ck q Mf bB λbC=>A2 bC (K HS r) (AD Ae n r λbD=>AD Ae h r λbE=>YE 68 Ae 2 [(0,68,bD),(68,68,bE)] λbF=>R.call Qo [bF] r λi a5=>J4 R BL [p] a5 λbG=>Bz Aq Au a5 λj bH=>E4 Au j bG bH λa6=>AD Au j a6 λbI=>R.call AI [a,bI] a6 λs t=>Ar (AD Au j t AL) λbJ=>Ar (C8 Ac i (some (A3 1)) none none AL) λbK=>Ar (Ca Au [(0,1,(A3 1)),(1,1,bK)] AL) λbL=>Ar (Ao R CX [bJ,bL] t AL) λbM=>Ar (Mv .not bM AL) λu=>Hl u t (some (s,t)) λbN a7=>Hl u a7 (Ar (Bm Ah bN AL) (CZ a7)) λbO a8=>Hl u a8 (Ar (Ap Ab .neq bO (A3 1) AL) (CZ a8)) λbP a9=>Ar (Ck u Mf bP AL) λb=>Hl b a9 (some (s,a9)) λbQ aA=>Hl b aA (Ar (Ds Ah bQ (A3 0) AL) (CZ aA)) λbR aa=>Hl b aa (Ar (AD Au bR aa AL) (CZ aa)) λbS aB=>Hl b aB (some (i,aB)) λbT aC=>Hl b aC (Ar (C8 Ac bT (some (A3 1)) none none AL) (CZ aC)) λbU aD=>Hl b aD (Ar (Ca Au [(0,1,(A3 2)),(1,1,bU)] AL) (CZ aD)) λbV ab=>Hl b ab (Ar (Ao R CX [bS,bV] ab AL) (CZ ab)) λbW aE=>Hl b aE (Ar (Mv .not bW AL) (CZ aE)) λbX ac=>Ar (Ck b Mf bX AL) λbY=>A2 bY (K HS ac) (Ds Ah s (A3 0) λbZ=>AD Au bZ ac λca=>R.call AI [p,ca] ac λad aF=>Ar (Bm Ah ad AL) λcb=>Ar (Ap Ab .neq cb (A3 1) AL) λc=>Hl c aF (some (ad,aF)) λcc aG=>Hl c aG (Ar (Ds Ah cc (A3 0) AL) (CZ aG)) λcd ae=>Hl c ae (Ar (AD Au cd ae AL) (CZ ae)) λce af=>Hl c af (Ar (AD Ae h af AL) (CZ af)) λcf aH=>Hl c aH (Ar (YE 68 Ae 1 [(0,68,cf)] AL) (CZ aH)) λcg aI=>Hl c aI (Ar (Ca Au [(0,1,(A3 3)),(2,1,cg)] AL) (CZ aI)) λch ag=>Hl c ag (Ar (Ao R CX [ce,ch] ag AL) (CZ ag)) λci aJ=>Hl c aJ (Ar (Mv .not ci AL) (CZ aJ)) λcj ah=>Ar (Ck c Mf cj AL) λck=>A2 ck (K HS ah) (Ds Ah ad (A3 0) λcl=>AD Au cl ah λcm=>R.call AI [a,cm] ah λai aj=>Ar (J4 R CH [a] aj AL) λcn=>Ar (Bm Ay cn AL) λco=>Ar (Ap Ab .eql co (A3 0) AL) λf=>Dk f aj (some (a,aj)) λcp ak=>Dk f ak (Ar (Ao R CO [cp] ak AL) (CZ ak)) λcq aK=>Dk f aK (some (i,aK)) λcr aL=>Dk f aL (Ar (C8 Ac cr (some (A3 1)) none none AL) (CZ aL)) λcs al=>Dk f al (Ar (Ao R Gz [cq,cs] al AL) (CZ al)) λct aM=>Ar (Ck f ct HS AL) λw=>Ar (Bm Ah ai AL) λcu=>Ar (Ap Ab .neq cu (A3 1) AL) λd=>Hl d aM (some (ai,aM)) λcv aN=>Hl d aN (Ar (Ds Ah cv (A3 0) AL) (CZ aN)) λcw am=>Hl d am (Ar (AD Au cw am AL) (CZ am)) λcx aO=>Hl d aO (some (i,aO)) λcy aP=>Hl d aP (Ar (C8 Ac cy none (some (A3 1)) none AL) (CZ aP)) λcz aQ=>Hl d aQ (Ar (Ca Au [(0,1,(A3 2)),(1,1,cz)] AL) (CZ aQ)) λc0 an=>Hl d an (Ar (Ao R CX [cx,c0] an AL) (CZ an)) λc1 aR=>Hl d aR (Ar (Mv .not c1 AL) (CZ aR)) λc2 ao=>Ar (Ck d Mf c2 AL) λc3=>A2 c3 (K HS ao) (Ds Ah ai (A3 0) λc4=>AD Au c4 ao λc5=>R.call AI [p,c5] ao λaS ap=>Bm Ah aS λc6=>Ap Ab .neq c6 (A3 1) λc7=>A2 c7 (K HS ap) (Ds Ah aS (A3 0) λc8=>AD Au c8 ap λc9=>R.call AI [a,c9] ap λcA aT=>Dk w aT (some (cA,aT)) λcB aU=>Dk w aU (Ar (Bm Ah cB AL) (CZ aU)) λcC aV=>Dk w aV (Ar (Ap Ab .eql cC (A3 0) AL) (CZ aV)) λcD aW=>Ar (Ck w cD HS AL) λk=>Dk k aW (some (a,aW)) λcE aX=>Dk k aX (R.call Kb [cE] aX λv H=>some (v,H)) λcF aY=>Dk k aY (some (i,aY)) λcG aq=>Dk k aq (Ar (Ao R Gz [cF,cG] aq AL) (CZ aq)) λcH aZ=>Ar (Ck k cH HS AL) λl=>Dk l aZ (some (a,aZ)) λcI ar=>Dk l ar (Ar (Ao R CO [cI] ar AL) (CZ ar)) λcJ ba=>Dk l ba (Ar (Bm Ac cJ AL) (CZ ba)) λcK bb=>Dk l bb (Ar (Ap Ab .eql cK (A3 0) AL) (CZ bb)) λcL bc=>Ar (Ck l cL HS AL) λg=>Dk g bc (some (a,bc)) λcM au=>Dk g au (Ar (AD Au j au AL) (CZ au)) λcN bd=>Dk g bd (R.call AI [cM,cN] bd λv H=>some (v,H)) λcO be=>Dk g be (Ar (Bm Ah cO AL) (CZ be)) λcP bf=>Dk g bf (Ar (Ap Ab .eql cP (A3 0) AL) (CZ bf)) λcQ bg=>Ar (Ck g cQ HS AL) λm=>Dk m bg (some (a,bg)) λcR bh=>Dk m bh (Ar (Ca Ae [] AL) (CZ bh)) λcS bi=>Dk m bi (R.call EY [cR,cS] bi λv H=>some (v,H)) λcT bj=>Dk m bj (Ar (Ap Ab .eql cT (A3 280) AL) (CZ bj)) λcU av=>Ar (Ck m cU HS AL) λe=>Dk e av (Ar (AD Au j av AL) (CZ av)) λcV bk=>Dk e bk (some (s,bk)) λcW bl=>Dk e bl (Ar (Ds Ah cW (A3 0) AL) (CZ bl)) λcX aw=>Dk e aw (Ar (AD Au cX aw AL) (CZ aw)) λcY ax=>Dk e ax (Ar (Ao R CX [cV,cY] ax AL) (CZ ax)) λcZ bm=>Dk e bm (Ar (Mv .not cZ AL) (CZ bm)) λda db=>Ar (Ck e da HS AL) λdc=>K dc db)))))
def TJ:JZ xM xM:=λL R K p ih g h b i e j f c k=>Ap Ab .lss c (A3 3) λd=>Dk d k (some (b,k)) λq l=>Dk d l (Bm Ac q (CZ l)) λr m=>Dk d m (Ap Ab .gtr r (A3 0) (CZ m)) λs a=>Ck d s HS λt=>A2 t (jn (λu v=>Ap Ab .add c (A3 1) λw=>ih g h b i e j u w v) λx=>jn (λy z=>x y z) λn=>Ds Co e (A3 6) λaa=>AD Ab aa a λab=>Ap Ab .mul (A3 4) c λac=>Ap Ab .shr ab ac λad=>Ao R LY [ad,(A3 16)] a λo=>Ap Ab .lss o (A3 14) λae=>A2 ae (Bm Ac b λaf=>Ap Ab .rem o af λag=>HR Ac b ag Ak a λah=>GM Av 1 Ak 1 [(0,1,ah)] a λai aj=>E5 Av 1 Ak Ac f ai aj λak al=>n ak al) (n f a)) (p g h b i e j f c a)
def TG:JY xM xM:=Ky z8N TJ
theorem nV:KU TG TJ:=λ_ _ _ _ _=>rfl
def TK:JZ Xt xM:=λL R K ah ih g t ai d bN bO bP bQ u=>Bm My g λaj=>Ap Ab .lss d aj λh=>Dk h u (some (d,u)) λak v=>Dk h v (Ap Ab .lss ak (A3 8) (CZ v)) λal i=>Ck h al HS λam=>A2 am (jn (λan ao ap aq ar au av aw ax=>Ap Ab .add aq (A3 1) λay=>ih an ao ap ay ar au av aw ax) λaz=>jn (λa0 a1 a2 a3 a4 a5 a6 a7 a8=>az a0 a1 a2 a3 a4 a5 a6 a7 a8) λw=>HR My g d Co i λa9=>Bz YQ Co i λf aA=>E4 Co f a9 aA λj=>Ds Co f (A3 0) λaB=>AD Ab aB j λaC=>jn (λaD aE=>jn (λx y k z a l m aa b=>Ds Co a (A3 1) λaF=>AD Ab aF b λaG=>Ds Co a (A3 2) λaH=>AD Ab aH b λaI=>Ds Co a (A3 3) λaJ=>AD Ab aJ b λaK=>Ds Co a (A3 4) λaL=>AD Ab aL b λaM=>Ds Co a (A3 5) λaN=>AD Ab aN b λaO=>Ca B7 [(0,1,l),(1,1,aG),(2,1,aI),(3,1,aK),(4,1,aM),(5,1,aO)] λaP=>Ds Co a (A3 1) λaQ=>AD Ab aQ b λaR=>Ds Co a (A3 2) λaS=>AD Ab aS b λaT=>Ds Co a (A3 3) λaU=>AD Ab aU b λaV=>Ds Co a (A3 4) λaW=>AD Ab aW b λaX=>Ds Co a (A3 5) λaY=>AD Ab aY b λaZ=>Ds Co a (A3 6) λba=>AD Ab ba b λbb=>Ca B7 [(0,1,aR),(1,1,aT),(2,1,aV),(3,1,aX),(4,1,aZ),(5,1,bb)] λbc=>Ds Co a (A3 3) λbd=>AD Ab bd b λbe=>Ds Co a (A3 4) λbf=>AD Ab bf b λbg=>Ds Co a (A3 5) λbh=>AD Ab bh b λbi=>Ds Co a (A3 6) λbj=>AD Ab bj b λbk=>Ca CM [(0,1,be),(1,1,bg),(2,1,bi),(3,1,bk)] λbl=>GM HU 4 CM 1 [(0,4,bl)] b λbm bn=>R.call I7 [aP,bc,bm,m] bn λbo bp=>Bz Ad Ae bp λn bq=>E4 Ae n bo bq λe=>AD Ae n e λbr=>Ao R GW [br] e λo=>Ao R T3 [k,o] e λab=>C9 ab 0 λbs=>C9 ab 1 λbR=>Ap Ak .neq o (WX []) λp=>Dk p e (some (bs,e)) λbt ac=>Dk p ac (Mv .not bt (CZ ac)) λbu q=>Ck p bu HS λbv=>A2 bv (AD Ae n q λbw=>GM Ad 68 Ae 1 [(0,68,bw)] q λbx bz=>E5 Ad 68 Ae Ay y bx bz λb0 b1=>GM Av 1 Ak 1 [(0,1,o)] b1 λb2 b3=>E5 Av 1 Ak Ac k b2 b3 λb4 b5=>w x b0 b4 z a l m aa b5) (w x y k z a l m aa q)) λb6=>jn (λb7 b8 b9 bA bB bC bD bE bF=>b6 b7 b8 b9 bA bB bC bD bE bF) λbG=>TG L R K bG L g t ai d f aD Te (A3 0) aE) λad=>Ap Ab .lss d (A3 2) λc=>Dk c j (Ds Co f (A3 0) (CZ j)) λbH r=>Dk c r (AD Ab bH r (CZ r)) λbI ae=>Dk c ae (Ap Ab .quo bI (A3 3) (CZ ae)) λbJ s=>Dk c s (Ao R LY [bJ,(A3 4)] s (CZ s)) λbK af=>Dk c af (Ap Ab .gtr bK (A3 0) (CZ af)) λbL ag=>Ck c bL HS λbM=>A2 bM (ad (A3 0) ag) (ad aC ag)) (ah t i)
def TH:JY Xt xM:=Ky z8N TK
theorem nW:KU TH TK:=λ_ _ _ _ _=>rfl
def VR:IX:=λL R a0 H K=>jn (λa b=>K a b) λc=>jn (λd e=>c d e) λf=>TH L R K f L a0 Te Te (A3 0) AV.dk AV.dk AV.dk AV.dk H
def QF:JZ Xt QV:=λL R K n ih e g b c d=>Bm Ay e λo=>Ap Ab .lss c o λp=>A2 p (Ao R LZ [g,(A3 1048576)] d λq=>Ap Ab .shr q c λr=>Ap Ab .rem r (A3 2) λs=>Ap Ab .eql s (A3 1) λa=>Dk a d (some (b,d)) λt h=>Dk a h (some (e,h)) λu i=>Dk a i (some (c,i)) λw j=>Dk a j (Ds Ay u w (CZ j)) λx f=>Dk a f (AD Ae x f (CZ f)) λy k=>Dk a k (R.call EY [t,y] k λv H=>some (v,H)) λz l=>Dk a l (Ap Ab .neq z (A3 0) (CZ l)) λaa m=>Ck a aa HS λab=>A2 ab (K (AV.tup [b,HS]) m) (Ap Ab .add c (A3 1) λac=>ih e g b ac m)) (n b d)
def QE:JY Xt QV:=Ky vK QF
theorem gJ:KU QE QF:=λ_ _ _ _ _=>rfl
def Sw:Jq:=λL R a0 a1 H K=>R.call O0 [] H λa b=>Rs BF CU .eql a (AV.v (.pointer none)) λc=>A2 c (K (AV.tup [a,HS]) b) (jn (λd e=>K (AV.tup [d,Mf]) e) λf=>jn (λg h=>f g h) λi=>QE L R K i L a0 a1 a (A3 0) b)
def Wh:Jq:=λL R a0 a1 H K=>jn (λb c=>Ap Ab .rem b a1 λd=>K d c) λa=>Ap Ab .lss a0 (A3 0) λe=>A2 e (Ap Ab .add a0 (A3 1) λf=>Mv .neg f λg=>a g H) (a a0 H)
def J9:IX:=λL R a0 H K=>Iu 8 L R a0 H K _
def Gh:Jq:=λL R a0 a1 H K=>Hr Aq a1 H λd e=>Rs BF CU .eql a0 (AV.v (.pointer none)) λa=>Hl a e (AD Au d e (CZ e)) λi f=>Hl a f (Ao R Ma [i] f (CZ f)) λj g=>Hl a g (Mv .not j (CZ g)) λk h=>Ck a Mf k λl=>A2 l (K Te h) (LC Aa h λb m=>Ws .i64 (A3 1) λn=>Mm b n (AV.fn (.func CG) [] []) m λo=>Ws .i64 (A3 2) λp=>Mm b p (AV.fn (.func Dv) [] []) o λq=>Ws .i64 (A3 3) λr=>Mm b r (AV.fn (.func D8) [] []) q λc=>Em 0 d Ab c λs=>Ws .i64 s λt=>Zi Aa false b t c λu=>AD Au d c λw=>Ct (E L) R u [a0,w] c λx y=>K x y)
def Uo:JZ F9N WW:=λL R K m ih f g h i d n j b e c a=>Ds Ah b (A3 0) λo=>Em 2 o Ay a λp=>Bm Ay p λq=>Ap Ab .lss c q λr=>A2 r (jn (λs t u=>Ap Ab .add c (A3 1) λv=>ih f g h s t n j b e v u) λw=>jn (λx y z=>w x y z) λk=>Ap Ab .add i (A3 1) λl=>Ds Ah b (A3 0) λaa=>Em 2 aa Ay a λab=>HR Ay ab c Ae a λac=>Ao R FI [ac] a λad=>Ao R T8 [e,ad] a λae=>A2 ae (Ap Ab .add d (A3 1) λaf=>k l af a) (k l d a)) (m f g h i d j b e c a)
def Um:JY F9N WW:=Ky C! Uo
theorem pB:KU Um Uo:=λ_ _ _ _ _=>rfl
def Up:JZ UE WW:=λL R K o ih f d g a b e h a0 a1 a2 c=>Ap Ab .lss h g λp=>A2 p (Bm Ah e λq=>Ap Ab .eql q (A3 0) λr=>A2 r (K (AV.tup [a,b,Mf]) c) (Ds Ah e (A3 0) λs=>AD Au s c λt=>R.call AI [f,t] c λi j=>Bm Ah i λu=>Ap Ab .eql u (A3 0) λv=>A2 v (K (AV.tup [a,b,Mf]) j) (R.call Kb [d] j λw k=>Ao R CO [d] k λx=>E5 Av 1 Ak Ac w x k λy z=>jn (λaa l ab ac ad ae m af ag n=>Ds Ah m (A3 0) λah=>AD Au ah n λai=>R.call AI [l,ai] n λaj ak=>Ap Ab .add ae (A3 1) λal=>ih aa l ab ac ad aj al m af ag ak) λam=>jn (λan ao ap aq ar au av aw ax ay=>am an ao ap aq ar au av aw ax ay) λaz=>Um L R K az L f d g a b e h i y (A3 0) z))) (o a b c)
def Un:JY UE WW:=Ky C! Up
theorem pD:KU Un Up:=λ_ _ _ _ _=>rfl
def We:Y3N:=λL R a0 a1 a2 H K=>J4 R BL [a0] H λa=>R.call AI [a1,a] H λb c=>jn (λd e f=>K (AV.tup [d,e,HS]) f) λg=>jn (λh i j=>g h i j) λk=>Un L R K k L a0 a1 a2 (A3 0) (A3 0) b (A3 0) AV.dk AV.dk AV.dk c
def QH:JZ Ru WV:=λL R K e ih d b c a=>Bm Ac b λf=>Ap Ab .lss c f λg=>A2 g (HR Ac b c Ak a λh=>Ao R T8 [d,h] a λi=>Mv .not i λj=>A2 j (K HS a) (Ap Ab .add c (A3 1) λk=>ih d b k a)) (e a)
def QG:JY Ru WV:=Ky z3N QH
theorem gK:KU QG QH:=λ_ _ _ _ _=>rfl
def Sx:Jq:=λL R a0 a1 H K=>R.call Kb [a0] H λa b=>R.call Kb [a1] b λc d=>jn (λe=>K Mf e) λf=>jn (λg=>f g) λh=>QG L R K h L a c (A3 0) d
def TP:JZ F7N F7N:=λL R K j ih f g h b d e c a=>Em 31 b Ac a λk=>Bm Ac k λl=>Ap Ab .lss c l λm=>A2 m (jn (λn o=>Ap Ab .add c (A3 1) λp=>ih f g h b d n p o) λq=>jn (λr s=>q r s) λi=>Em 31 b Ac a λt=>HR Ac t c Ak a λu=>Ap Ak .eql u e λv=>A2 v (Ap Ab .sub (A3 (-1)) d λw=>Ao R JV [w] a λx=>i x a) (i e a)) (j f g h b d e c a)
def TN:JY F7N F7N:=Ky z7N TP
theorem nY:KU TN TP:=λ_ _ _ _ _=>rfl
def TQ:JZ WV F7N:=λL R K r ih d e j f c aC aD a=>CY 32 f λs=>Em 1 s Am a λt=>Bm Am t λu=>Ap Ab .lss c u λv=>A2 v (Ds B7 e (A3 1) λw=>AD Ab w a λx=>Ap Ab .quo x (A3 3) λy=>Ao R BM [y,(A3 1000)] a λz=>Ap Ab .add z c λaa=>Ao R JV [aa] a λab=>jn (λac ad=>jn (λae af ag g ah k ai l=>Em 31 g Ac l λaj=>GM Av 1 Ak 1 [(0,1,k)] l λak al=>E5 Av 1 Ak Ac aj ak al λam an=>CY 31 g λao=>E4 Ac ao am an λap=>Ap Ab .add ah (A3 1) λaq=>ih ae af ag g aq k ai ap) λar=>jn (λau av aw ax ay az a0 a1=>ar au av aw ax ay az a0 a1) λa2=>TN L R K a2 L d e j f c ac (A3 0) ad) λm=>Bm Ac d λa3=>Ap Ab .lss c a3 λb=>Dk b a (some (d,a)) λa4 n=>Dk b n (some (c,n)) λa5 o=>Dk b o (Ds Ac a4 a5 (CZ o)) λa6 h=>Dk b h (AD Ak a6 h (CZ h)) λa7 p=>Dk b p (Bm Ak a7 (CZ p)) λa8 q=>Dk b q (Ap Ab .eql a8 (A3 32) (CZ q)) λa9 i=>Ck b a9 HS λaA=>A2 aA (HR Ac d c Ak i λaB=>m aB i) (m ab i)) (r e j f a)
def TO:JY WV F7N:=Ky z7N TQ
theorem nZ:KU TO TQ:=λ_ _ _ _ _=>rfl
def VV:Y4N:=λL R a0 a1 a2 a3 H K=>Hr Jm a0 H λc am=>Hr Jm a1 am λh an=>Bz Ad Ae an λj a=>Ar (Ds B7 c (A3 0) AL) λs=>Ar (AD Ab s a AL) λk=>Ar (Ao R BM [k,(A3 3)] a AL) λt=>Ar (Ap Ab .add (A3 1) t AL) λao=>Ar (Ds B7 c (A3 1) AL) λu=>Ar (AD Ab u a AL) λl=>Ar (Ao R BM [l,(A3 3)] a AL) λw=>Ar (Ap Ab .add (A3 1) w AL) λap=>Ar (Ds B7 c (A3 2) AL) λx=>Ar (AD Ab x a AL) λm=>Ar (Ao R BM [m,(A3 9)] a AL) λy=>Ar (Ap Ab .add (A3 1) y AL) λaq=>Ar (Ds B7 c (A3 3) AL) λz=>Ar (AD Ab z a AL) λn=>Ar (Ao R BM [n,(A3 4)] a AL) λaa=>Ar (Ap Ab .add (A3 1) aa AL) λar=>Ar (Ds B7 c (A3 4) AL) λab=>Ar (AD Ab ab a AL) λo=>Ar (Ao R BM [o,(A3 50)] a AL) λac=>Ar (Ds B7 c (A3 5) AL) λad=>Ar (AD Ab ad a AL) λp=>Ar (Ao R BM [p,(A3 30)] a AL) λae=>Ar (Ca Ae [(0,1,ao),(1,1,ap),(2,1,aq),(3,1,ar),(4,1,ac),(5,1,ae)] AL) λau=>D5 (Bz Ad Ae a λv H=>some (v,H)) λd b=>D5 (E4 Ae d au b λH=>some (AV.v undef,H)) λbt f=>Ra (Bc (AD Ab s b AL) k) (Ra (Bc (Ao R BM [k,(A3 3)] b AL) t) (Ra (Bc (AD Ab u b AL) l) (Ra (Bc (Ao R BM [l,(A3 3)] b AL) w) (Ra (Bc (AD Ab x b AL) m) (Ra (Bc (Ao R BM [m,(A3 9)] b AL) y) (Ra (Bc (AD Ab z b AL) n) (Ra (Bc (Ao R BM [n,(A3 4)] b AL) aa) (Ra (Bc (AD Ab ab b AL) o) (Ra (Bc (Ao R BM [o,(A3 50)] b AL) ac) (Ra (Bc (AD Ab ad b AL) p) (Ra (Bc (Ao R BM [p,(A3 30)] b AL) ae) (Ds B7 c (A3 3) λav=>AD Ab av f λaw=>Ap Ab .quo aw (A3 4) λax=>Ds B7 c (A3 4) λay=>AD Ab ay f λaz=>Ap Ab .quo az (A3 50) λa4=>AD B7 h f λa5=>Ao R Rk [ax,a4,a5] f λa6=>CY 26 d λa7=>E4 Fg a7 a6 f λq=>Ds B7 c (A3 5) λa8=>AD Ab a8 q λa9=>Ap Ab .quo a9 (A3 30) λaA=>Ao R Gs [aA] q λaB=>CY 6 d λaC=>E4 A1 aC aB q λe=>Em 0 d Ab e λaD=>Ap Ab .eql aD (A3 1) λaE=>A2 aE (AD Ae d e λaF=>E4 Ae j aF e λaf=>AD Ae j af λaG=>K aG af) (Ds B7 h (A3 0) λaH=>AD Ab aH e λaI=>Ds B7 h (A3 1) λaJ=>AD Ab aJ e λaK=>Ds B7 h (A3 2) λaL=>AD Ab aL e λaM=>Ca RE [(0,1,aI),(1,1,aK),(2,1,aM)] λaN=>Ds B7 c (A3 2) λaO=>AD Ab aO e λaP=>Ap Ab .quo aP (A3 9) λaQ=>Ao R Rj [aN,aQ,a2,Mf] e λaR=>CY 32 d λaS=>E4 AS aS aR e λag=>CY 32 d λaT=>Em 3 aT A1 ag λaU=>CY 6 d λaV=>E4 A1 aV aU ag λaW=>jn (λah ai i g=>jn (λaj=>AD Ae i aj λaX=>E4 Ae ai aX aj λak=>AD Ae ai ak λaY=>K aY ak) λal=>Em 0 i Ab g λaZ=>Ap Ab .eql aZ (A3 3) λba=>A2 ba (Ds B7 ah (A3 0) λbb=>AD Ab bb g λbc=>Ap Ab .quo bc (A3 3) λbd=>Ao R Kq [bd] g λbe=>CY 55 i λbf=>E4 DV bf be g λr=>Ds B7 ah (A3 0) λbg=>AD Ab bg r λbh=>Ap Ab .quo bh (A3 9) λbi=>Ao R BM [bi,(A3 3)] r λbj=>Ap Ab .add (A3 1) bj λbk=>CY 64 i λbl=>E4 Ab bl bk r λbm=>al bm) (al g)) λbn=>jn (λbo bp bq br=>bn bo bp bq br) λbs=>TO L R K bs L a3 c j d (A3 0) AV.dk AV.dk aW)))))))))))))
def VW:IX:=λL R a0 H K=>Iu 13 L R a0 H K _
def Sz:Y0N:=λL R H K=>q0N 14 L R H K _
def VG:JZ Xt WV:=λL R K e ih b d c a=>Bm Ay b λf=>Ap Ab .lss c f λg=>A2 g (HR Ay b c Ae a λh=>Ao R GW [h] a λi=>GM Av 1 Ak 1 [(0,1,i)] a λj k=>E5 Av 1 Ak Ac d j k λl m=>Ap Ab .add c (A3 1) λn=>ih b l n m) (e d a)
def VF:JY Xt WV:=Ky z3N VG
theorem sB:KU VF VG:=λ_ _ _ _ _=>rfl
def XX:IX:=λL R a0 H K=>jn (λa b=>K a b) λc=>jn (λd e=>c d e) λf=>VF L R K f L a0 Te (A3 0) H
def oY:Jq:=λL R a0 a1 H K=>Lr 16 L R a0 a1 H K _
def Km:IX:=λL R a0 H K=>Rs BF CU .eql a0 (AV.v (.pointer none)) λc=>A2 c (K Te H) (R.call FM [a0] H λd e=>R.call Bn [d] e λf g=>R.call BC [f] g λh a=>Ao R Qb [h] a λb=>C9 b 0 λi=>C9 b 1 λn=>R.call Ib [a0,i] a λj k=>R.call BC [j] k λl m=>K l m)
def Zs:Jq:=λL R a0 a1 H K=>Lr 18 L R a0 a1 H K _
def IN:IX:=λL R a0 H K=>Rs BF CU .eql a0 (AV.v (.pointer none)) λc=>A2 c (K Te H) (R.call FM [a0] H λd e=>Bz Ax Ai e λb f=>E4 Ai b d f λa=>Lh a0 λg=>Em 0 g Ai a λh=>Ao R Cw [h] a λi=>R.call Ef [i] a λj k=>R.call Bk [j,(AV.fn (.func EX) [] [b])] k λl m=>K l m)
def Yf:IX:=λL R a0 H K=>J4 R CH [a0] H λa=>R.call Qo [a] H λb c=>K b c
def Kl:Jq:=λL R a0 a1 H K=>Hr Ad a1 H λc a=>Rs BF CU .eql a0 (AV.v (.pointer none)) λd=>A2 d (K (A3 1) a) (AD Ae c a λe=>R.call Gw [a0,e] a λb f=>C9 b 0 λh=>C9 b 1 λg=>K g f)
def VQ:Jq:=λL R a0 a1 H K=>jn (λb c=>Ap Ab .rem b a1 λd=>K d c) λa=>Ap Ab .lss a0 (A3 0) λe=>A2 e (Ap Ab .add a0 (A3 1) λf=>Mv .neg f λg=>a g H) (a a0 H)
def VI:JZ Ru WV:=λL R K e ih c d a b=>Bm Ac c λf=>Ap Ab .lss a f λg=>A2 g (HR Ac c a Ak b λh=>Ap Ak .eql h d λi=>A2 i (K (AV.tup [Mf,a]) b) (Ap Ab .add a (A3 1) λj=>ih c d j b)) (e b)
def VH:JY Ru WV:=Ky z3N VI
theorem sC:KU VH VI:=λ_ _ _ _ _=>rfl
def XY:Jq:=λL R a0 a1 H K=>jn (λa=>K (AV.tup [HS,(A3 (-1))]) a) λb=>jn (λc=>b c) λd=>VH L R K d L a0 a1 (A3 0) H
def ET:Operand×Array Tmp×Code×Code:=WY (c24) 0
def SL:JZ xM F9N:=λL R K j ih d e c f a k g h i l=>YB a l λm b=>C9 m 0 λn=>A2 n (ZE a b λo=>C9 o 0 λp=>AD CD c b λq=>Ca F6 [] λr=>LW p λs=>Mm q s r b λt=>ih d e c f a k g h i t) (j d e c f a g h i b)
def SK:JY xM F9N:=Ky z9N SL
theorem lU:KU SK SL:=λ_ _ _ _ _=>rfl
def Ul:IX:=λL R a0 H K=>Ao R L7 [a0] H λc=>C9 c 0 λd=>C9 c 1 λaq=>LC F6 H λl m=>Bz CN CD m λe n=>E4 CD e l n λo=>jn (λf g a p q r s t h=>jn (λu i=>AD CD u i λv=>R.call Ks [v] i λw x=>K w x) λy=>Ao R Fk [g] h λj=>jn (λz aa=>y z aa) λk=>nQ R 32 j [(2,f),(3,g),(5,a),(8,p),(16,q),(25,j),(27,r),(28,s),(29,t)] (ET).2.1 (ET).2.2.1 (ET).2.2.2 h λab b=>mW ab (k a b) (K f b) (λac=>@Bool.rec (λ_=>Af) (none) (k a b) (Nat.beq ac 2)) (λ_=>none)) λad=>WN d o λae af=>jn (λag ah ai aj ak al am an ao=>ad ag ah ai aj ak al am an ao) λap=>SK L R K ap L Te d e AV.dk ae AV.dk AV.dk AV.dk AV.dk af
theorem kP(L:Nat)(R:Rt)(c2:AV)(c3:AV)(c5:AV)(c8:AV)(c16:AV)(c25:AV)(c27:AV)(c28:AV)(c29:AV)(a0:AV)(a1:AV)(P:Hp->Ru->Af)(Q:Exit->Ru)(H:Hp):rdK (λcf=>OK (E L) R cf) 32 [(2,c2),(3,c3),(5,c5),(8,c8),(16,c16),(25,c25),(27,c27),(28,c28),(29,c29)] (ET).2.1 [a0,a1] (ET).2.2.1 (ET).2.2.2 H P Q=P H λa=>AD CD c5 a λb=>LW a1 λc=>iK b c a λd=>Q .normal d:=by kernel_rfl
def Pw:IX:=λL R a0 H K=>Iu 25 L R a0 H K _
def J7:Jq:=λL R a0 a1 H K=>Hr Aq a1 H λc a=>Em 1 c Ac a λd=>R.call Bi [d] a λe f=>R.call Bk [e,(AV.fn (.func BN) [a0] [])] f λg b=>Ao R Ia [a0,g] b λh=>K h b
def Jh:Jq:=λL R a0 a1 H K=>Hr AT a0 H λb f=>Hr Aq a1 f λg c=>Em 1 g Ac c λh=>R.call Bi [h] c λi j=>R.call Bk [i,(AV.fn (.func Fh) [] [b])] j λd k=>R.call AH [d] k λw l=>R.call Cq [d] l λe a=>Bm Ac e λm=>Ap Ab .eql m (A3 0) λn=>A2 n (K Te a) (AD BF b a λo=>R.call Ib [o,e] a λp q=>R.call BC [p] q λr s=>Ca Au [(0,1,(A3 3)),(2,1,r)] λt=>GM Aq 3 Au 1 [(0,3,t)] s λu v=>K u v)
def Je:JZ UE eF:=λL R K k ih a b e f c d=>Ap Ab .lss c f λl=>A2 l (HR Ay e c Ae d λm=>Bz Ad Ae d λg n=>E4 Ae g m n λh=>AD Ae g h λo=>R.call Gw [a,o] h λi j=>C9 i 0 λp=>C9 i 1 λu=>Hl b j (some (p,j)) λq r=>Ck b Mf q λs=>Ap Ab .add c (A3 1) λt=>ih a s e f t r) (k a b d)
def Jd:JY UE eF:=Ky z5N Je
theorem QZ:KU Jd Je:=λ_ _ _ _ _=>rfl
def J8:Jq:=λL R a0 a1 H K=>Hr Aq a1 H λd b=>jn (λe f a=>Mv .not f λg=>A2 g (K Te a) (Ao R Ia [e,Te] a λh=>K h a)) λi=>Em 2 d Ay b λc=>Bm Ay c λj=>jn (λk l m=>i k l m) λn=>Jd L R K n L a0 HS c j (A3 0) b
def Yg:Jq:=λL R a0 a1 H K=>Lr 29 L R a0 a1 H K _
def Py:IX:=λL R a0 H K=>Iu 30 L R a0 H K _
def VS:Jq:=λL R a0 a1 H K=>jn (λb c=>Ap Ab .rem b a1 λd=>K d c) λa=>Ap Ab .lss a0 (A3 0) λe=>A2 e (Ap Ab .add a0 (A3 1) λf=>Mv .neg f λg=>a g H) (a a0 H)
def TW:JZ UE QV:=λL R K o ih g h a b c=>Ap Ab .lss b (A3 6) λp=>A2 p (jn (λq=>Ap Ab .add b (A3 1) λr=>ih g h a r q) λs=>jn (λt=>s t) λi=>HR B7 g b Ab c λu=>Ao R Jz [u,(A3 17)] c λv=>Ap Ab .sub v (A3 8) λj=>Ap Ab .neq j (A3 0) λd=>Xo d c 2 a AB λw k=>Dk d k (Bm AB w (CZ k)) λx l=>Dk d l (Ap Ab .lss x (A3 5) (CZ l)) λy e=>Ck d y HS λz=>A2 z (Ao R Gt [j,(A3 4)] e λm=>C9 m 0 λaa=>C9 m 1 λam=>Bz Br A6 e λn ab=>E4 A6 n aa ab λf=>Em 2 a AB f λac=>Ap Ab .add (A3 1) b λad=>AD A6 n f λae=>Ca BU [(0,1,ad),(1,2,ae)] λaf=>GM Ba 3 BU 1 [(0,3,af)] f λag ah=>E5 Ba 3 BU AB ac ag ah λai aj=>CY 2 a λak=>E4 AB ak ai aj λal=>i al) (i e)) (o h a c)
def TV:JY UE QV:=Ky vK TW
theorem oC:KU TV TW:=λ_ _ _ _ _=>rfl
def Wc:Y3N:=λL R a0 a1 a2 H K=>Hr Jm a2 H λi j=>Bz EG Fg j λk l=>Ca Fg [] λm=>Bz EG Fg l λa n=>E4 Fg a m n λb=>Ao R Jz [a0,(A3 161)] b λo=>Ap Ab .sub o (A3 80) λp=>Ao R Gt [p,(A3 4)] b λd=>C9 d 0 λq=>C9 d 1 λae=>CY 0 a λr=>E4 A6 r q b λc=>Ao R Jz [a1,(A3 9)] c λs=>Ao R Gt [s,(A3 4)] c λe=>C9 e 0 λt=>C9 e 1 λaf=>CY 3 a λu=>E4 A6 u t c λv=>jn (λf w g=>AD Fg w g λx=>E4 Fg f x g λh=>AD Fg f h λy=>K y h) λz=>jn (λaa ab ac=>z aa ab ac) λad=>TV L R K ad L i k a (A3 0) v
def VY:IX:=λL R a0 H K=>Iu 33 L R a0 H K _
def MA:JZ WV WW:=λL R K aj ih ak o u al w d am h an p ao=>Bm J5 o λap=>Ap Ab .lss p ap λi=>Xo i ao 2 d A0 λaq x=>Dk i x (Bm A0 aq (CZ x)) λar y=>Dk i y (Ap Ab .lss ar (A3 14) (CZ y)) λau q=>Ck i au HS λav=>A2 av (jn (λaw ax=>Ap Ab .add p (A3 1) λay=>ih ak o u al w d am aw an ay ax) λaz=>jn (λa0 a1=>az a0 a1) λz=>HR J5 o p CM q λa2=>Bz HU CM q λc a3=>E4 CM c a2 a3 λj=>Em 2 d A0 j λa4=>Bm A0 a4 λe=>Ds CM c (A3 0) λa5=>AD Ab a5 j λa6=>Ao R Cs [a6,(A3 8)] j λa7=>Ap Ab .add (A3 1) a7 λa8=>Ca AO [(0,1,a8)] λa9=>Bz AU AO j λb aA=>E4 AO b a9 aA λa=>jn (λk=>AD AS d k λaB=>AD AO b k λaC=>Ao R CF [aB,aC,e,h] k λaa=>C9 aa 0 λaD=>C9 aa 1 λaE=>Bz AA A1 k λab aF=>E4 A1 ab aD aF λac=>Ap Ab .eql aE (A3 0) λf=>Dk f ac (some (u,ac)) λaG ad=>Dk f ad (Mv .not aG (CZ ad)) λaH ae=>Dk f ae (some (aH,ae)) λr aI=>dP r aI 0 b Ab λaJ af=>Hl r af (Ap Ab .neq aJ (A3 8) (CZ af)) λaK ag=>Dk f ag (Ck r Mf aK (CZ ag)) λaL l=>Ck f aL HS λaM=>A2 aM (Em 2 d A0 l λaN=>AD AO b l λaO=>GM AU 26 AO 1 [(0,26,aO)] l λaP aQ=>E5 AU 26 AO A0 aN aP aQ λaR aS=>CY 2 d λaT=>E4 A0 aT aR aS λah=>AD A1 ab ah λaU=>GM AA 20 A1 1 [(0,20,aU)] ah λaV aW=>E5 AA 20 A1 Am h aV aW λaX aY=>z aX aY) (z h l)) λaZ=>Em 0 b Ab a λm=>jn (λba=>aZ ba) λg=>Ap Ab .eql m (A3 1) λbb=>A2 bb (Ar (Ds CM c (A3 1) AL) λbc=>Ar (AD Ab bc a AL) λbd=>Ar (Ao R Cs [bd,(A3 13)] a AL) λbe=>Ar (Ap Ab .sub be (A3 6) AL) λbf=>Ar (Ds CM c (A3 2) AL) λbg=>Ar (AD Ab bg a AL) λbh=>Ar (Ao R Cs [bh,(A3 4)] a AL) λbi=>Ar (Ap Ab .add (A3 1) bi AL) λbj=>Ar (Ao R Gt [bf,bj] a AL) λai=>Ar (C9 ai 0 AL) λbk=>Ar (C9 ai 1 AL) λbS=>Ar (CY 1 b AL) λbl=>D5 (E4 A6 bl bk a λH=>some (AV.v undef,H)) λbT s=>Ds CM c (A3 3) λbm=>AD Ab bm s λbn=>Ao R Gs [bn] s λbo=>CY 3 b λbp=>E4 A1 bp bo s λbq=>g bq) (Ap Ab .eql m (A3 2) λbr=>A2 br (Ds CM c (A3 1) λbs=>AD Ab bs a λbt=>Em 1 d Am a λbu=>Bm Am bu λbv=>Ao R Cs [bt,bv] a λbw=>CY 23 b λbx=>E4 Ab bx bw a λbz=>g bz) (Ap Ab .eql m (A3 7) λb0=>A2 b0 (Ds CM c (A3 1) λb1=>AD Ab b1 a λb2=>Ao R Cs [b2,e] a λb3=>CY 24 b λb4=>E4 Ab b4 b3 a λb5=>GM Hd 1 Ab 5 [(0,1,(A3 2)),(1,1,(A3 (-1))),(2,1,(A3 3)),(3,1,(A3 (-2))),(4,1,(A3 1))] b5 λb6 n=>Ds CM c (A3 2) λb7=>AD Ab b7 n λb8=>Ao R Cs [b8,(A3 5)] n λb9=>HR Bj b6 b9 Ab n λbA=>CY 23 b λbB=>E4 Ab bB bA n λbC=>g bC) (Ap Ab .eql m (A3 8) λbD=>A2 bD (Ds CM c (A3 1) λbE=>AD Ab bE a λbF=>Ao R Cs [bF,e] a λbG=>CY 24 b λbH=>E4 Ab bH bG a λbI=>g bI) (Ds CM c (A3 1) λbJ=>AD Ab bJ a λbK=>Ao R Cs [bK,e] a λbL=>CY 24 b λbM=>E4 Ab bM bL a λt=>Ds CM c (A3 2) λbN=>AD Ab bN t λbO=>Ao R Cs [bO,e] t λbP=>CY 25 b λbQ=>E4 Ab bQ bP t λbR=>g bR))))) (aj w d h q)
def M0:JY WV WW:=Ky C! MA
theorem Q6:KU M0 MA:=λ_ _ _ _ _=>rfl
def TU:JZ F9N WW:=λL R K l ih e f g h i a j k b m c=>Em 1 a Am c λn=>Bm Am n λo=>Ap Ab .lss b o λp=>A2 p (Em 2 a A0 c λq=>Ca AO [(0,1,(A3 2)),(23,1,b)] λr=>GM AU 26 AO 1 [(0,26,r)] c λs t=>E5 AU 26 AO A0 q s t λu v=>CY 2 a λw=>E4 A0 w u v λd=>Em 1 a Am d λx=>HR Am x b A1 d λy=>GM AA 20 A1 1 [(0,20,y)] d λz aa=>E5 AA 20 A1 Am k z aa λab ac=>Ap Ab .add b (A3 1) λad=>ih e f g h i a j ab ad m ac) (l e f g h i a j k b c)
def TS:JY F9N WW:=Ky C! TU
theorem oB:KU TS TU:=λ_ _ _ _ _=>rfl
def TT:JZ xM WW:=λL R K m ih d f g e h b c n o i a=>Ao R Cs [d,(A3 3)] a λp=>Ap Ab .leq c p λq=>A2 q (Ar (CY 1 b AL) λj=>Ar (AD Am j a AL) λk=>OG RE e c Ab a λr=>Ar (Ao R Gs [r] a AL) λs=>D5 (GM AA 20 A1 1 [(0,20,s)] a λv H=>some (v,H)) λt l=>D5 (E5 AA 20 A1 Am k t l λv H=>some (v,H)) λu w=>Ar (CY 1 b AL) λx=>D5 (E4 Am x u w λH=>some (AV.v undef,H)) λaa y=>Ra (Bc (AD Am j l AL) k) (Ap Ab .add c (A3 1) λz=>ih d f g e h b z n o i y)) (m d f g e h b c i a)
def TR:JY xM WW:=Ky C! TT
theorem oA:KU TR TT:=λ_ _ _ _ _=>rfl
def VZ:Y4N:=λL R a0 a1 a2 a3 H K=>Hr UN a0 H λi j=>Bz Cx AS j λk a=>Ao R Cs [a1,(A3 900)] a λl=>Ap Ab .add (A3 1) l λm=>Ca AS [(0,1,m)] λn=>Bz Cx AS a λb o=>E4 AS b n o λp=>jn (λq r s t u v w x y=>jn (λz aa ab ac ad ae af ag ah ai=>jn (λc d e f=>Bm Am e λaj=>Ap Ab .sub aj (A3 1) λak=>HR Am e ak A1 f λal=>CY 3 d λam=>E4 A1 am al f λg=>AD AS d g λan=>E4 AS c an g λh=>AD AS c h λao=>K ao h) λap=>jn (λaq ar au av=>ap aq ar au av) λaw=>M0 L R K aw L z aa ab ac ad ae af ag ah (A3 0) ai) λax=>jn (λay az a4 a5 a6 a7 a8 a9 aA aB=>ax ay az a4 a5 a6 a7 a8 a9 aA aB) λaC=>TS L R K aC L q r s t u v w Te (A3 0) x y) λaD=>jn (λaE aF aG aH aI aJ aK aL aM=>aD aE aF aG aH aI aJ aK aL aM) λaN=>TR L R K aN L a1 a2 a3 i k b (A3 0) AV.dk AV.dk AV.dk p
def Sk:IX:=λL R a0 H K=>Iu 35 L R a0 H K _
def VU:IX:=λL R a0 H K=>Bz Ke DV H λc d=>Ao R BM [a0,(A3 3)] d λh=>Ap Ab .add (A3 1) h λi=>Ca A6 [(0,1,(WX [45,53])),(1,1,(WX [49]))] λj=>Ca A6 [(0,1,(WX [50,53])),(1,1,(WX [50]))] λk=>Ca A6 [(0,1,(WX [48])),(1,1,(WX [49]))] λl=>Ca A6 [(0,1,(WX [49])),(1,1,(WX [50,48]))] λm=>Ca DV [(0,1,i),(1,2,j),(3,2,k),(5,2,l),(7,2,m)] λn=>Bz Ke DV d λa o=>E4 DV a n o λb=>jn (λe=>AD DV a e λp=>E4 DV c p e λf=>AD DV c f λq=>K q f) λg=>Em 0 a Ab b λr=>Ap Ab .eql r (A3 2) λs=>A2 s (Ca A6 [(0,1,(WX [49])),(1,1,(WX [50]))] λt=>CY 5 a λu=>E4 A6 u t b λv=>g v) (g b)
def Rb:IX:=λL R a0 H K=>Iu 37 L R a0 H K _
def VM:JZ Xt eF:=λL R K e ih c f g d a b=>Ap Ab .lss a (A3 8) λh=>A2 h (OG AE c a Al b λi=>Ar (Ap Al .shr i (AV.v (.int .u64 24)) AL) λj=>Ar (Jc Al Bl j AL) λk=>OG AE c a Al b λl=>Ar (Ap Al .shr l (AV.v (.int .u64 16)) AL) λm=>Ar (Jc Al Bl m AL) λn=>OG AE c a Al b λo=>Ar (Ap Al .shr o (AV.v (.int .u64 8)) AL) λp=>Ar (Jc Al Bl p AL) λq=>OG AE c a Al b λr=>Ar (Jc Al Bl r AL) λs=>D5 (GM Bu 1 Bl 4 [(0,1,k),(1,1,n),(2,1,q),(3,1,s)] b λv H=>some (v,H)) λt u=>D5 (E5 Bu 1 Bl AW d t u λv H=>some (v,H)) λw x=>Ap Ab .add a (A3 1) λy=>ih c f g w y x) (e d b)
def VK:JY Xt eF:=Ky z5N VM
theorem sE:KU VK VM:=λ_ _ _ _ _=>rfl
def VL:JZ WV eF:=λL R K e ih d b a f g c=>Bm AW b λh=>Ap Ab .lss a h λi=>A2 i (Ap Ab .add a (A3 64) λj=>C8 AW b (some a) (some j) none λk=>Ao R Us [d,k] c λl=>Ap Ab .add a (A3 64) λm=>ih l b m f g c) (e d b a c)
def VJ:JY WV eF:=Ky z5N VL
theorem sD:KU VJ VL:=λ_ _ _ _ _=>rfl
def Yd:IX:=λL R a0 H K=>GM Ci 1 Al 8 [(0,1,(AV.v (.int .u32 1779033703))),(1,1,(AV.v (.int .u32 3144134277))),(2,1,(AV.v (.int .u32 1013904242))),(3,1,(AV.v (.int .u32 2773480762))),(4,1,(AV.v (.int .u32 1359893119))),(5,1,(AV.v (.int .u32 2600822924))),(6,1,(AV.v (.int .u32 528734635))),(7,1,(AV.v (.int .u32 1541459225)))] H λc a=>Ao R PK [a0] a λd=>jn (λe f g h=>jn (λi b=>xL i b λj=>K j b) λk=>jn (λl m=>k l m) λn=>VK L R K n L e f g Te (A3 0) h) λo=>jn (λp q r s=>o p q r s) λt=>VJ L R K t L c d (A3 0) AV.dk AV.dk a
def OO:Jq:=λL R a0 a1 H K=>Lr 39 L R a0 a1 H K _
def DC:JZ Ru eF:=λL R K l ih d e f g a b=>Ap Ab .lss a g λm=>A2 m (HR Ay f a Ae b λn=>Bz Ad Ae b λh o=>E4 Ae h n o λi=>HR Ay d a Ae i λp=>Bz Ad Ae i λj q=>E4 Ae j p q λc=>AD Ae h c λr=>AD Ae j c λs=>Ct (E L) R e [r,s] c λt k=>Mv .not t λu=>A2 u (K HS k) (Ap Ab .add a (A3 1) λv=>ih d e f g v k)) (l b)
def DB:JY Ru eF:=Ky z5N DC
def DE:Y3N:=λL R a0 a1 a2 H K=>Bm Ay a0 λa=>Bm Ay a1 λb=>Ap Ab .neq a b λc=>A2 c (K HS H) (jn (λd=>K Mf d) λe=>Bm Ay a0 λf=>jn (λg=>e g) λh=>DB L R K h L a1 a2 a0 f (A3 0) H)
def dJ:Jq:=λL R a0 a1 H K=>Hr Ad a0 H λb a4=>Hr Ad a1 a4 λa j=>Ar (AD Ae b j AL) λa5=>D5 (Ct (E L) R (AV.fn (.func O9) [] []) [a5] j λv H=>some (v,H)) λa6 ae=>Ar (AD Ae a ae AL) λaf=>D5 (Ct (E L) R (AV.fn (.func O9) [] []) [af] ae λv H=>some (v,H)) λa7 ag=>Ar (Xp uI .eql a6 a7 AL) λe=>Dk e ag (Ar (CY 6 b AL) (CZ ag)) λa8 k=>Dk e k (Ar (AD A1 a8 k AL) (CZ k)) λa9 ah=>Dk e ah (Ar (CY 6 a AL) (CZ ah)) λaA l=>Dk e l (Ar (AD A1 aA l AL) (CZ l)) λaB ai=>Dk e ai (Ar (Xp L9 .eql a9 aB AL) (CZ ai)) λaC aj=>Ar (Ck e aC HS AL) λf=>Dk f aj (Ar (CY 55 b AL) (CZ aj)) λaD m=>Dk f m (Ar (AD DV aD m AL) (CZ m)) λaE ak=>Dk f ak (Ar (CY 55 a AL) (CZ ak)) λaF n=>Dk f n (Ar (AD DV aF n AL) (CZ n)) λaG al=>Dk f al (Ar (Xp J2 .eql aE aG AL) (CZ al)) λaH am=>Ar (Ck f aH HS AL) λg=>Dk g am (Ar (CY 26 b AL) (CZ am)) λaI o=>Dk g o (Ar (AD Fg aI o AL) (CZ o)) λaJ an=>Dk g an (Ar (CY 26 a AL) (CZ an)) λaK p=>Dk g p (Ar (AD Fg aK p AL) (CZ p)) λaL q=>Dk g q (Ar (Ao R xI [aJ,aL] q AL) (CZ q)) λaM ao=>Ar (Ck g aM HS AL) λh=>Dk h ao (Ar (CY 32 b AL) (CZ ao)) λaN r=>Dk h r (Ar (AD AS aN r AL) (CZ r)) λaO ap=>Dk h ap (Ar (CY 32 a AL) (CZ ap)) λaP s=>Dk h s (Ar (AD AS aP s AL) (CZ s)) λaQ t=>Dk h t (Ar (Ao R PN [aO,aQ] t AL) (CZ t)) λaR aq=>Ar (Ck h aR HS AL) λi=>Dk i aq (Ar (CY 31 b AL) (CZ aq)) λaS u=>Dk i u (Ar (AD Ac aS u AL) (CZ u)) λaT ar=>Dk i ar (Ar (CY 31 a AL) (CZ ar)) λaU w=>Dk i w (Ar (AD Ac aU w AL) (CZ w)) λaV x=>Dk i x (Ar (Ao R HL [aT,aV] x AL) (CZ x)) λaW au=>Ar (Ck i aW HS AL) λc=>Dk c au (Ar (CY 65 b AL) (CZ au)) λaX av=>Dk c av (Ar (CY 1 aX AL) (CZ av)) λaY y=>Dk c y (Ar (AD Ac aY y AL) (CZ y)) λaZ aw=>Dk c aw (Ar (CY 65 a AL) (CZ aw)) λba ax=>Dk c ax (Ar (CY 1 ba AL) (CZ ax)) λbb z=>Dk c z (Ar (AD Ac bb z AL) (CZ z)) λbc aa=>Dk c aa (Ar (Ao R HL [aZ,bc] aa AL) (CZ aa)) λbd ay=>Ar (Ck c bd HS AL) λd=>Dk d ay (Ar (CY 65 b AL) (CZ ay)) λbe az=>Dk d az (Ar (CY 2 be AL) (CZ az)) λbf ab=>Dk d ab (Ar (AD Ac bf ab AL) (CZ ab)) λbg a2=>Dk d a2 (Ar (CY 65 a AL) (CZ a2)) λbh a3=>Dk d a3 (Ar (CY 2 bh AL) (CZ a3)) λbi ac=>Dk d ac (Ar (AD Ac bi ac AL) (CZ ac)) λbj ad=>Dk d ad (Ar (Ao R HL [bg,bj] ad AL) (CZ ad)) λbk bl=>Ar (Ck d bk HS AL) λbm=>Ra (Bc (AD Ae a j AL) af) (K bm bl)
def ES:Operand×Array Tmp×Code×Code:=WY (c42) 0
def SJ:JZ A4E A4E:=λL R K aj ih i j k b l m n f o p q r s t u v w x y z aa ab ac ad ae af ag g h c a=>Ap Ab .lss c h λak=>A2 ak (jn (λal am=>Ap Ab .add c (A3 1) λan=>ih i j k b l m n al o p q r s t u v w x y z aa ab ac ad ae af ag g h an am) λao=>jn (λap aq=>ao ap aq) λah=>HR Ac g c Ak a λd=>AD DP b a λai=>LW d λar=>Zi Ab false ai ar a λau=>Ap Ab .sub au (A3 1) λav=>LW d λaw=>Mm ai aw av a λe=>AD DP b e λax=>LW d λay=>Zi Ab false ax ay e λaz=>Ap Ab .eql az (A3 0) λa0=>A2 a0 (GM Av 1 Ak 1 [(0,1,d)] e λa1 a2=>E5 Av 1 Ak Ac f a1 a2 λa3 a4=>ah a3 a4) (ah f e)) (aj i j k b l m n f o p q r s t u v w x y z aa ab ac ad ae af ag g h c a)
def SH:JY A4E A4E:=Ky C0U SJ
theorem lT:KU SH SJ:=λ_ _ _ _ _=>rfl
def Om:JZ UE A4E:=λL R K j ih k l e m f n o c g p q r s t u v w x y z aa ab ac ad ae af ag b0 b1 b2 d=>Bm Ac c λah=>Ap Ab .gtr ah (A3 0) λai=>A2 ai (jn (λaj ak al am an ao ap aq ar au av aw ax ay az a0 a1 a2 a3 a4 a5 a6 a7 a8 a9 aA aB aC aD aE aF=>ih aj ak al am an ao ap aq ar au av aw ax ay az a0 a1 a2 a3 a4 a5 a6 a7 a8 a9 aA aB aC aD aE aF) λaG=>Ao R HK [c] d λaH=>Bz Av Ak d λa aI=>E4 Ak a aH aI λaJ=>R.call Bk [c,(AV.fn (.func J0) [] [a])] aJ λaK h=>AD Ak a h λaL=>GM Av 1 Ak 1 [(0,1,aL)] h λaM aN=>E5 Av 1 Ak Ac g aM aN λaO b=>AD BD f b λaP=>AD Ak a b λaQ=>LW aQ λaR=>Zi Ac false aP aR b λi=>Bm Ac i λaS=>jn (λaT aU aV aW aX aY aZ ba bb bc bd be bf bg bh bi bj bk bl bm bn bo bp bq br bs bt bu bv bw bx=>aG aT aU aV aW aX aY aZ ba bb bc bd be bf bg bh bi bj bk bl bm bn bo bp bq br bs bt bu bv bw bx) λbz=>SH L R K bz L k l e m f n o aK aO p q r s t u v w x y z aa ab ac ad ae af ag i aS (A3 0) b) (j e g d)
def SI:JY UE A4E:=Ky C0U Om
theorem Vi:KU SI Om:=λ_ _ _ _ _=>rfl
def Uk:IX:=λL R a0 H K=>Ao R L7 [a0] H λh=>C9 h 0 λo=>C9 h 1 λp=>Bz CC Ai H λa q=>E4 Ai a o q λi=>Mv .not p λr=>A2 r (K (AV.tup [Te,(A3 220)]) i) (LC Ab i λs t=>Bz IG DP t λb u=>E4 DP b s u λv=>LC Ac v λw x=>Bz EP BD x λc y=>E4 BD c w y λf=>jn (λz aa j k ab ac ad ae af ag ah ai aj ak al am an ao ap aq ar au av aw ax ay az a1 l=>AD Ai j l λa2=>R.call Ml [a2] l λa3 a4=>R.call Bk [a3,(AV.fn (.func Lc) [] [k])] a4 λa5 a6=>jn (λa7 m d=>Bm Ac m λa8=>AD Ai a7 d λa9=>YC a9 d λaA=>Ap Ab .lss a8 aA λaB=>A2 aB (K (AV.tup [Te,(A3 220)]) d) (K (AV.tup [m,(A3 0)]) d)) λaC=>jn (λaD aE aF=>aC aD aE aF) λaG=>SI L R K aG L z aa j k ab ac ad a5 Te ae af ag ah ai aj ak al am an ao ap aq ar au av aw ax ay az a1 a6) λaH=>AD Ai a f λaI=>Ao R Fk [aI] f λe=>jn (λaJ aK aL aM aN aO aP aQ aR aS aT aU aV aW aX aY aZ ba bb bc bd be bf bg bh bi bj bk bl=>aH aJ aK aL aM aN aO aP aQ aR aS aT aU aV aW aX aY aZ ba bb bc bd be bf bg bh bi bj bk bl) λn=>nQ R 86 e [(2,Te),(3,(A3 0)),(4,a),(6,b),(7,c),(8,AV.dk),(9,AV.dk),(10,AV.dk),(11,AV.dk),(25,e),(26,AV.dk),(27,AV.dk),(28,AV.dk),(29,AV.dk),(30,AV.dk),(31,AV.dk),(32,AV.dk),(33,AV.dk),(34,AV.dk),(35,AV.dk),(36,AV.dk),(37,AV.dk),(38,AV.dk),(39,AV.dk),(40,AV.dk),(41,AV.dk),(42,AV.dk),(61,AV.dk),(62,AV.dk),(63,AV.dk)] (ES).2.1 (ES).2.2.1 (ES).2.2.2 f λbm g=>mW bm (n Te (A3 0) a b c AV.dk AV.dk e AV.dk AV.dk AV.dk AV.dk AV.dk AV.dk AV.dk AV.dk AV.dk AV.dk AV.dk AV.dk AV.dk AV.dk AV.dk AV.dk AV.dk AV.dk AV.dk AV.dk g) (K (AV.tup [Te,(A3 0)]) g) (λbn=>@Bool.rec (λ_=>Af) (none) (n Te (A3 0) a b c AV.dk AV.dk e AV.dk AV.dk AV.dk AV.dk AV.dk AV.dk AV.dk AV.dk AV.dk AV.dk AV.dk AV.dk AV.dk AV.dk AV.dk AV.dk AV.dk AV.dk AV.dk AV.dk g) (Nat.beq bn 0)) (λ_=>none))
theorem kO(L:Nat)(R:Rt)(c2:AV)(c3:AV)(c4:AV)(c6:AV)(c7:AV)(c8:AV)(c9:AV)(c10:AV)(c11:AV)(c25:AV)(c26:AV)(c27:AV)(c28:AV)(c29:AV)(c30:AV)(c31:AV)(c32:AV)(c33:AV)(c34:AV)(c35:AV)(c36:AV)(c37:AV)(c38:AV)(c39:AV)(c40:AV)(c41:AV)(c42:AV)(c61:AV)(c62:AV)(c63:AV)(a0:AV)(a1:AV)(P:Hp->Ru->Af)(Q:Exit->Ru)(H:Hp):rdK (λcf=>OK (E L) R cf) 86 [(2,c2),(3,c3),(4,c4),(6,c6),(7,c7),(8,c8),(9,c9),(10,c10),(11,c11),(25,c25),(26,c26),(27,c27),(28,c28),(29,c29),(30,c30),(31,c31),(32,c32),(33,c33),(34,c34),(35,c35),(36,c36),(37,c37),(38,c38),(39,c39),(40,c40),(41,c41),(42,c42),(61,c61),(62,c62),(63,c63)] (ES).2.1 [a0,a1] (ES).2.2.1 (ES).2.2.2 H P Q=P H λa=>jn (λj=>Q .normal j) λf=>AD Ai c4 a λk=>Ao R Fj [k,a1] a λl=>A2 l (AD DP c6 a λg=>LW a0 λm=>Zi Ab false g m a λn=>Ap Ab .add n (A3 1) λo=>LW a0 λp=>Mm g p o a λb=>Ar (AD BD c7 b AL) λd=>Ar (AD BD c7 b AL) λe=>Ar (LW a1 λq=>Zi Ac false e q b AL) λh=>D5 (GM Av 1 Ak 1 [(0,1,a0)] b λv H=>some (v,H)) λr c=>D5 (E5 Av 1 Ak Ac h r c λv H=>some (v,H)) λs i=>D5 (LW a1 λt=>Mm d t s i λH=>some (AV.v undef,H)) λx u=>Ra (Bc (AD BD c7 c AL) d) (Ra (Bc (AD BD c7 i AL) d) (Ra (Bc (AD BD c7 c AL) e) (Ra (Bc (LW a1 λw=>Zi Ac false e w c AL) h) (f u))))) (f a):=by kernel_rfl
def Ge:IX:=λL R a0 H K=>R.call Ev [Te,a0] H λa b=>K a b
def B9:IX:=λL R a0 H K=>Iu 44 L R a0 H K _
def Ii:JZ QV QV:=λL R K j ih f b g c k=>YB c k λl d=>C9 l 0 λm=>A2 m (jn (λn=>ih f b g c n) λh=>ZE c d λi=>C9 i 0 λo=>C9 i 1 λp=>Bz Ad Ae d λe q=>E4 Ae e p q λa=>Em 31 e Ac a λr=>Ao R B2 [r,(AV.fn (.func De) [] [b])] a λs=>Mv .not s λt=>A2 t (AD Ai b a λu=>AD Ae e a λv=>LW o λw=>Mm u w v a λx=>h x) (h a)) (j f b g c d)
def Ih:JY QV QV:=Ky vK Ii
theorem Pn:KU Ih Ii:=λ_ _ _ _ _=>rfl
def Ij(L:Nat)(R:Rt)(K:KV)(ih:QV):QV:=λd e z aa b=>AD Ai e b λg=>YC g b λh=>jn (λi c f j a=>AD Ai c a λk=>YC k a λl=>Ap Ab .eql l f λm=>A2 m (AD Ai c a λn=>K n a) (ih i c f j a)) λo=>Lh d λp=>Em 0 p Ai b λq=>WN q b λr s=>jn (λt u v w x=>o t u v w x) λy=>Ih L R K y L d e h r s
def F8(L:Nat)(R:Rt)(K:KV)(n:Nat):QV:=lpN vK (Ij L R K) n
theorem Po(L:Nat)(R:Rt)(K:KV)(n:Nat):F8 L R K (n+1)=Ij L R K (F8 L R K n):=rfl
def I4:IX:=λL R a0 H K=>LC Ae H λb c=>Bz Ax Ai c λa d=>E4 Ai a b d λe=>F8 L R K L a0 a AV.dk AV.dk e
def JT:Jq:=λL R a0 a1 H K=>Lr 46 L R a0 a1 H K _
def ER:JZ UE QV:=λL R K i ih a e b c d=>Bm Ac a λj=>Ap Ab .lss c j λk=>A2 k (jn (λl m=>Ap Ab .add c (A3 1) λn=>ih a e l n m) λo=>jn (λp q=>o p q) λf=>HR Ac a c Ak d λg=>Ct (E L) R e [g] d λr h=>Mv .not r λs=>A2 s (Ds Ac a b λt=>E4 Ak t g h λu=>Ap Ab .add b (A3 1) λv=>f v u) (f b h)) (i a b d)
def XA0:JY UE QV:=Ky vK ER
theorem Lg:KU XA0 ER:=λ_ _ _ _ _=>rfl
def XA1:Jq:=λL R a0 a1 H K=>Ao R DR [a0,a1] H λa=>Ap Ab .eql a (A3 (-1)) λd=>A2 d (K a0 H) (jn (λb c e=>C8 Ac b (some c) none none λf=>uN 1 Ak f e λg=>C8 Ac b none (some c) none λh=>K h g) λi=>Ap Ab .add a (A3 1) λj=>jn (λk l m=>i k l m) λn=>XA0 L R K n L a0 a1 a j H)
def EV:IX:=λL R a0 H K=>R.call EF [a0] H λa b=>R.call AH [a] b λd c=>K a c
def Cv:IX:=λL R a0 H K=>Iu 49 L R a0 H K _
def GT:Jq:=λL R a0 a1 H K=>Lr 50 L R a0 a1 H K _
def Kk:Jq:=λL R a0 a1 H K=>Lr 51 L R a0 a1 H K _
def Yr:JZ UE eF:=λL R K o ih i a j k c d=>Ap Ab .lss c k λp=>A2 p (HR Ay j c Ae d λq=>Bz Ad Ae d λe r=>E4 Ae e q r λb=>AD Ae e b λs=>Ao R FI [s] b λf=>LW f λt=>Zi Ae true a t b λl=>C9 l 0 λu=>C9 l 1 λg=>Bz Ad Ae b λv w=>E4 Ae v u w λm=>Hl g m (some (f,m)) λx n=>Hl g n (Ap Ak .eql x (WX []) (CZ n)) λy h=>Ck g Mf y λz=>A2 z (LC Ae h λaa ab=>K (AV.tup [aa,HS]) ab) (AD Ae e h λac=>LW f λad=>Mm a ad ac h λae=>Ap Ab .add c (A3 1) λaf=>ih i a j k af ae)) (o i a d)
def Yq:JY UE eF:=Ky z5N Yr
theorem xF:KU Yq Yr:=λ_ _ _ _ _=>rfl
def dH:IX:=λL R a0 H K=>LC Ae H λb c=>jn (λd e a=>Bm Ay d λf=>Ap Ab .gtr f (A3 64) λg=>A2 g (LC Ae a λh i=>K (AV.tup [h,HS]) i) (K (AV.tup [e,Mf]) a)) λj=>Bm Ay a0 λk=>jn (λl m n=>j l m n) λo=>Yq L R K o L a0 b a0 k (A3 0) c
def IU:IX:=λL R a0 H K=>Iu 53 L R a0 H K _
def Nc:IX:=λL R a0 H K=>R.call GK [a0] H λa b=>R.call Ef [a] b λc d=>K c d
def D1:Jq:=λL R a0 a1 H K=>Lr 55 L R a0 a1 H K _
def Ly:IX:=λL R a0 H K=>Iu 56 L R a0 H K _
def JS:Jq:=λL R a0 a1 H K=>Lh a0 λe=>Em 0 e Ai H λf=>R.call Bn [f] H λg h=>R.call BC [g] h λi b=>Ao R ML [i] b λj=>GM A5 1 Ac 2 [(0,1,a1),(1,1,j)] b λk l=>R.call Gr [k] l λc m=>R.call AH [c] m λw n=>R.call Cq [c] n λa d=>Bm Ac a λo=>Ap Ab .eql o (A3 0) λp=>A2 p (K Te d) (Bm Ac a λq=>eMM true q (A3 64) λr=>C8 Ac a none (some r) none λs=>Ca Au [(0,1,(A3 2)),(1,1,s)] λt=>GM Aq 3 Au 1 [(0,3,t)] d λu v=>K u v)
def DD:IX:=λL R a0 H K=>Iu 58 L R a0 H K _
def Kj:Jq:=λL R a0 a1 H K=>Lr 59 L R a0 a1 H K _
def HG:Jq:=λL R a0 a1 H K=>Lr 60 L R a0 a1 H K _
def FD:JZ UE QV:=λL R K g ih e d b c a=>Bm Ac b λh=>Ap Ab .lss c h λi=>A2 i (jn (λj k=>Ap Ab .add c (A3 1) λl=>ih e j b l k) λm=>jn (λn o=>m n o) λf=>OG Ac b c Ak a λp=>Ar (Ap Ab .sub c (A3 1) AL) λq=>OG Ac b q Ak a λr=>Ar (Ap Ak .neq p r AL) λs=>A2 s (HR Ac b c Ak a λt=>Ds Ac e d λu=>E4 Ak u t a λv=>Ap Ab .add d (A3 1) λw=>f w v) (f d a)) (g e d a)
def FC:JY UE QV:=Ky vK FD
theorem Mg:KU FC FD:=λ_ _ _ _ _=>rfl
def Eb:JZ Xt QV:=λL R K f ih a b g h c=>Bm Ac a λi=>Ap Ab .lss b i λj=>A2 j (OG Ac a b Ak c λk=>Ar (Ap Ab .sub b (A3 1) AL) λl=>OG Ac a l Ak c λm=>Ar (Ap Ak .eql k m AL) λn=>A2 n (C8 Ac a (some b) none none λo=>jn (λd e p=>C8 Ac d (some e) none none λq=>uN 1 Ak q p λr=>C8 Ac d none (some e) none λs=>K s r) λt=>jn (λu v w=>t u v w) λx=>FC L R K x L a b o (A3 1) c) (Ap Ab .add b (A3 1) λy=>ih a y g h c)) (f a c)
def Ea:JY Xt QV:=Ky vK Eb
theorem Iw:KU Ea Eb:=λ_ _ _ _ _=>rfl
def Ep:IX:=λL R a0 H K=>Bm Ac a0 λa=>Ap Ab .lss a (A3 2) λb=>A2 b (K a0 H) (jn (λc d=>K c d) λe=>jn (λf g=>e f g) λh=>Ea L R K h L a0 (A3 1) AV.dk AV.dk H)
def Mp:JZ UE eF:=λL R K j ih e a f g b c=>Ap Ab .lss b g λk=>A2 k (HR AB f b BU c λl=>Bz Ba BU c λd m=>E4 BU d l m λh=>Em 0 d Ab h λn=>GM Hd 1 Ab 1 [(0,1,n)] h λo p=>R.call BO [a,o] p λv i=>Em 1 d A6 i λq=>GM Br 2 A6 1 [(0,2,q)] i λr s=>R.call CP [a,r] s λw t=>Ap Ab .add b (A3 1) λu=>ih e a f g u t) (j e a c)
def Mn:JY UE eF:=Ky z5N Mp
theorem Xs:KU Mn Mp:=λ_ _ _ _ _=>rfl
def Nf:IX:=λL R a0 H K=>Hr Ad a0 H λa e=>AD Ae a e λab=>Ao R Eh [ab] e λac=>Mv .not ac λad=>A2 ad (K (AV.tup [(WX []),(A3 210)]) e) (Em 65 a Qg e λae=>Ao R ZO [ae] e λm=>C9 m 0 λbt=>C9 m 1 λaf=>Ap Ab .neq af (A3 0) λh=>Xo h e 65 a Qg λag j=>Dk h j (Ao R Qp [ag] j (CZ j)) λah n=>Dk h n (Mv .not ah (CZ n)) λai o=>Ck h ai HS λaj=>A2 aj (K (AV.tup [(WX []),(A3 210)]) o) (Bz Hu KG o λf d=>Em 0 a Ab d λak=>Em 1 a Ab d λal=>Em 2 a Ab d λam=>Em 3 a Ab d λan=>Em 4 a Ab d λao=>Em 5 a Ab d λap=>GM Hd 1 Ab 6 [(0,1,ak),(1,1,al),(2,1,am),(3,1,an),(4,1,ao),(5,1,ap)] d λaq ar=>R.call BO [f,aq] ar λbu k=>Em 6 a A1 k λau=>Ao R Jw [au] k λp=>C9 p 0 λav=>C9 p 1 λbv=>GM Av 1 Ak 1 [(0,1,av)] k λaw ax=>R.call Cz [f,aw] ax λbw q=>CY 26 a λay=>Em 0 ay A6 q λaz=>GM Br 2 A6 1 [(0,2,az)] q λa1 a2=>R.call CP [f,a1] a2 λbx r=>CY 26 a λa3=>Em 2 a3 AB r λa4=>Bm AB a4 λa5=>GM Hd 1 Ab 1 [(0,1,a5)] r λa6 a7=>R.call BO [f,a6] a7 λbz s=>jn (λb c t=>CY 26 b λa8=>Em 3 a8 A6 t λa9=>GM Br 2 A6 1 [(0,2,a9)] t λaA aB=>R.call CP [c,aA] aB λb0 u=>Em 31 b Ac u λaC=>Bm Ac aC λaD=>GM Hd 1 Ab 1 [(0,1,aD)] u λaE aF=>R.call BO [c,aE] aF λb1 v=>Em 31 b Ac v λaG=>R.call Cz [c,aG] v λb2 l=>Em 32 b AS l λaH=>Ao R Gv [aH] l λw=>C9 w 0 λaI=>C9 w 1 λb3=>GM Av 1 Ak 1 [(0,1,aI)] l λaJ aK=>R.call Cz [c,aJ] aK λb4 i=>jn (λaL=>CY 0 c λaM=>R.call HZ [aM] aL λaN x=>Ap Ab .gtr aN (A3 32768) λaO=>A2 aO (K (AV.tup [(WX []),(A3 210)]) x) (CY 0 c λaP=>R.call EJ [aP] x λaQ aR=>K (AV.tup [aQ,(A3 0)]) aR)) λy=>Em 0 b Ab i λaS=>Ap Ab .eql aS (A3 3) λaT=>A2 aT (CY 55 b λaU=>Em 0 aU Ab i λaV=>GM Hd 1 Ab 1 [(0,1,aV)] i λaW aX=>R.call BO [c,aW] aX λb5 g=>CY 55 b λaY=>Em 1 aY A6 g λaZ=>CY 55 b λba=>Em 3 ba A6 g λbb=>CY 55 b λbc=>Em 5 bc A6 g λbd=>CY 55 b λbe=>Em 7 be A6 g λbf=>GM Br 2 A6 4 [(0,2,aZ),(2,2,bb),(4,2,bd),(6,2,bf)] g λbg bh=>R.call CP [c,bg] bh λb6 z=>Em 64 b Ab z λbi=>GM Hd 1 Ab 1 [(0,1,bi)] z λbj bk=>R.call BO [c,bj] bk λb7 bl=>y bl) (y i)) λbm=>CY 26 a λbn=>Em 2 bn AB s λaa=>Bm AB aa λbo=>jn (λbp bq br=>bm bp bq br) λbs=>Mn L R K bs L a f aa bo (A3 0) s))
def F7:Operand×Array Tmp×Code×Code:=WY (c64) 0
def Uz:JZ xM F9N:=λL R K j ih b c d e a f k g h i=>Ap Ab .geq a (A3 0) λl=>A2 l (Bm Ak b λm=>Ap Ab .mul (A3 8) m λn=>Ap Ab .mul (A3 8) a λo=>Ap Ab .shr n o λp=>Jc Ab Bl p λq=>GM Bu 1 Bl 1 [(0,1,q)] i λr s=>E5 Bu 1 Bl AW e r s λt u=>Ap Ab .sub a (A3 1) λv=>ih b c d t v f k g h u) (j b c d e a f g h i)
def Qc:JY xM F9N:=Ky z9N Uz
theorem pK:KU Qc Uz:=λ_ _ _ _ _=>rfl
def Uy:JZ xM F9N:=λL R K j ih b c d a k e f g h i=>Bm AW a λl=>Ap Ab .rem l (A3 64) λm=>Ap Ab .neq m (A3 56) λn=>A2 n (GM Bu 1 Bl 1 [(0,1,(AV.v (.int .u8 0)))] i λo p=>E5 Bu 1 Bl AW a o p λq r=>ih b c d q k e f g h r) (j b c d a e f g h i)
def Ux:JY xM F9N:=Ky z9N Uy
theorem pJ:KU Ux Uy:=λ_ _ _ _ _=>rfl
def Wk:IX:=λL R a0 H K=>Ca AP [(0,1,(AV.v (.int .u32 1779033703))),(1,1,(AV.v (.int .u32 3144134277))),(2,1,(AV.v (.int .u32 1013904242))),(3,1,(AV.v (.int .u32 2773480762))),(4,1,(AV.v (.int .u32 1359893119))),(5,1,(AV.v (.int .u32 2600822924))),(6,1,(AV.v (.int .u32 528734635))),(7,1,(AV.v (.int .u32 1541459225)))] λi=>Bz BH AP H λd j=>E4 AP d i j λk=>A1I Bu a0 k λl m=>GM Bu 1 Bl 1 [(0,1,(AV.v (.int .u8 128)))] m λn o=>E5 Bu 1 Bl AW l n o λp q=>jn (λr s t u w x y z aa=>jn (λab e a f ac ad ae af ag=>jn (λah b=>AD AP ah b λai=>Ao R GL [ai] b λaj=>K aj b) λak=>R.call Lb [f,(A3 64)] ag λg al=>jn (λam an=>ak am an) λh=>nQ R 40 g [(0,ab),(2,e),(3,a),(4,f),(5,ac),(6,ad),(34,g),(35,ae),(36,af)] (F7).2.1 (F7).2.2.1 (F7).2.2.2 al λao c=>mW ao (h a c) (K e c) (λap=>@Bool.rec (λ_=>Af) (none) (h a c) (Nat.beq ap 4)) (λ_=>none)) λaq=>jn (λar au av aw ax ay az a1 a2=>aq ar au av aw ax ay az a1 a2) λa3=>Qc L R K a3 L r s t u (A3 7) w x y z aa) λa4=>jn (λa5 a6 a7 a8 a9 aA aB aC aD=>a4 a5 a6 a7 a8 a9 aA aB aC aD) λaE=>Ux L R K aE L a0 (WX []) d p AV.dk AV.dk AV.dk AV.dk AV.dk q
theorem oD(L:Nat)(R:Rt)(c0:AV)(c2:AV)(c3:AV)(c4:AV)(c5:AV)(c6:AV)(c34:AV)(c35:AV)(c36:AV)(a0:AV)(P:Hp->Ru->Af)(Q:Exit->Ru)(H:Hp):rdK (λcf=>OK (E L) R cf) 40 [(0,c0),(2,c2),(3,c3),(4,c4),(5,c5),(6,c6),(34,c34),(35,c35),(36,c36)] (F7).2.1 [a0] (F7).2.2.1 (F7).2.2.2 H P Q=P H λa=>R.call L4 [c3,a0] a λc b=>Q .normal b:=by kernel_rfl
def A3u:Jq:=λL R a0 a1 H K=>Lr 65 L R a0 a1 H K _
def Wb:Jq:=λL R a0 a1 H K=>jn (λb c=>Ap Ab .rem b a1 λd=>K d c) λa=>Ap Ab .lss a0 (A3 0) λe=>A2 e (Ap Ab .add a0 (A3 1) λf=>Mv .neg f λg=>a g H) (a a0 H)
def VX:Jq:=λL R a0 a1 H K=>jn (λb c=>Ap Ab .rem b a1 λd=>K d c) λa=>Ap Ab .lss a0 (A3 0) λe=>A2 e (Ap Ab .add a0 (A3 1) λf=>Mv .neg f λg=>a g H) (a a0 H)
def Hi:Y4N:=λL R a0 a1 a2 a3 H K=>q4N 71 L R a0 a1 a2 a3 H K _
def Pj:JZ Xt WV:=λL R K f ih b d c a=>Bm Bj b λg=>Ap Ab .lss c g λh=>A2 h (HR Bj b c Ab a λi=>Ao R SP [i] a λe=>C9 e 0 λj=>C9 e 1 λm=>Ap Ak .add d j λk=>Ap Ab .add c (A3 1) λl=>ih b k l a) (f d a)
def Pi:JY Xt WV:=Ky z3N Pj
theorem dB:KU Pi Pj:=λ_ _ _ _ _=>rfl
def Q8:IX:=λL R a0 H K=>jn (λa b=>K a b) λc=>jn (λd e=>c d e) λf=>Pi L R K f L a0 (WX []) (A3 0) H
def IL:IX:=λL R a0 H K=>Iu 73 L R a0 H K _
def TM:JZ UE WV:=λL R K g ih c f d a=>CY 26 c λh=>Em 2 h AB a λi=>Bm AB i λj=>Ap Ab .lss d j λk=>A2 k (CY 26 c λl=>Em 2 l AB a λm=>HR AB m d BU a λn=>Bz Ba BU a λe o=>E4 BU e n o λb=>Xh 0 e Ab b λp=>Ar (YE 1 Ab 1 [(0,1,p)] AL) λq=>Ar (Ao R EN [q] b AL) λr=>Ar (Ap Ak .add f r AL) λs=>Xh 1 e A6 b λt=>Ar (Ao R Fv [t] b AL) λu=>Ar (Ap Ak .add s u AL) λv=>Ap Ab .add d (A3 1) λw=>ih c v w b) (g c f a)
def TL:JY UE WV:=Ky z3N TM
theorem nX:KU TL TM:=λ_ _ _ _ _=>rfl
def VT:IX:=λL R a0 H K=>Hr Ad a0 H λd a=>Em 6 d A1 a λk=>Ao R JH [k] a λg=>C9 g 0 λl=>C9 g 1 λaW=>Xh 0 d Ab a λm=>Xh 1 d Ab a λn=>Xh 2 d Ab a λo=>Xh 3 d Ab a λp=>Xh 4 d Ab a λq=>Xh 5 d Ab a λr=>Ar (YE 1 Ab 6 [(0,1,m),(1,1,n),(2,1,o),(3,1,p),(4,1,q),(5,1,r)] AL) λs=>Ar (Ao R EN [s] a AL) λt=>Ar (YE 1 Ak 1 [(0,1,l)] AL) λu=>Ar (Ao R Hn [u] a AL) λv=>Ar (Ap Ak .add t v AL) λw=>Ar (CY 26 d AL) λx=>Xh 0 x A6 a λy=>Ar (Ao R Fv [y] a AL) λz=>Ar (Ap Ak .add w z AL) λaa=>Ar (CY 26 d AL) λab=>Xh 2 ab AB a λac=>Ar (Bm AB ac AL) λad=>Ar (YE 1 Ab 1 [(0,1,ad)] AL) λae=>Ar (Ao R EN [ae] a AL) λaf=>Ar (Ap Ak .add aa af AL) λag=>jn (λe ah b=>Ar (CY 26 e AL) λai=>Xh 3 ai A6 b λaj=>Ar (Ao R Fv [aj] b AL) λak=>Ar (Ap Ak .add ah ak AL) λal=>Xh 31 e Ac b λam=>Ar (Bm Ac am AL) λan=>Ar (YE 1 Ab 1 [(0,1,an)] AL) λao=>Ar (Ao R EN [ao] b AL) λap=>Ar (Ap Ak .add al ap AL) λaq=>Xh 31 e Ac b λar=>Ar (Ao R Hn [ar] b AL) λau=>Ar (Ap Ak .add aq au AL) λav=>Em 32 e AS b λaw=>Ao R JF [aw] b λh=>C9 h 0 λax=>C9 h 1 λaX=>YE 1 Ak 1 [(0,1,ax)] λay=>Ao R Hn [ay] b λaz=>Ap Ak .add av az λi=>jn (λa1 a2=>K a1 a2) λj=>Em 0 e Ab b λa3=>Ap Ab .eql a3 (A3 3) λa4=>A2 a4 (Em 55 e DV b λa5=>Bz Ke DV b λf a6=>E4 DV f a5 a6 λc=>Xh 0 f Ab c λa7=>Ar (YE 1 Ab 1 [(0,1,a7)] AL) λa8=>Ar (Ao R EN [a8] c AL) λa9=>Ar (Ap Ak .add i a9 AL) λaA=>Xh 1 f A6 c λaB=>Ar (Ao R Fv [aB] c AL) λaC=>Ar (Ap Ak .add aA aC AL) λaD=>Xh 3 f A6 c λaE=>Ar (Ao R Fv [aE] c AL) λaF=>Ar (Ap Ak .add aD aF AL) λaG=>Xh 5 f A6 c λaH=>Ar (Ao R Fv [aH] c AL) λaI=>Ar (Ap Ak .add aG aI AL) λaJ=>Xh 7 f A6 c λaK=>Ar (Ao R Fv [aK] c AL) λaL=>Ar (Ap Ak .add aJ aL AL) λaM=>Xh 64 e Ab c λaN=>Ar (YE 1 Ab 1 [(0,1,aN)] AL) λaO=>Ar (Ao R EN [aO] c AL) λaP=>Ar (Ap Ak .add aM aP AL) λaQ=>j aQ c) (j i b)) λaR=>jn (λaS aT aU=>aR aS aT aU) λaV=>TL L R K aV L d ag (A3 0) a
def NP:JZ Xt QV:=λL R K e ih b c f a d=>Ap Ab .geq a (A3 0) λg=>A2 g (Bm Ak b λh=>Ap Ab .mul (A3 8) h λi=>Ap Ab .mul (A3 8) a λj=>Ap Ab .shr i j λk=>Jc Ab Bl k λl=>GM Bu 1 Bl 1 [(0,1,l)] d λm n=>E5 Bu 1 Bl AW c m n λo p=>Ap Ab .sub a (A3 1) λq=>ih b o f q p) (e c d)
def KY:JY Xt QV:=Ky vK NP
theorem Zr:KU KY NP:=λ_ _ _ _ _=>rfl
def NO:JZ WV QV:=λL R K e ih b a c f d=>Bm AW a λg=>Ap Ab .rem g (A3 64) λh=>Ap Ab .neq h (A3 56) λi=>A2 i (GM Bu 1 Bl 1 [(0,1,(AV.v (.int .u8 0)))] d λj k=>E5 Bu 1 Bl AW a j k λl m=>ih b l c f m) (e b a c d)
def NM:JY WV QV:=Ky vK NO
theorem Zq:KU NM NO:=λ_ _ _ _ _=>rfl
def NN:JZ QV QV:=λL R K f ih a c b d e=>Bm Ak a λg=>Ap Ab .lss b g λh=>A2 h (iO Ak Ak a b λi=>GM Bu 1 Bl 1 [(0,1,i)] e λj k=>E5 Bu 1 Bl AW c j k λl m=>Ap Ab .add b (A3 1) λn=>ih a l n d m) (f a c b d e)
def NL:JY QV QV:=Ky vK NN
theorem Zp:KU NL NN:=λ_ _ _ _ _=>rfl
def Pq:IX:=λL R a0 H K=>jn (λa b c d e=>GM Bu 1 Bl 1 [(0,1,(AV.v (.int .u8 128)))] e λf g=>E5 Bu 1 Bl AW b f g λh i=>jn (λj k l m=>jn (λn o=>K n o) λp=>jn (λq r=>p q r) λs=>KY L R K s L j k l (A3 7) m) λt=>jn (λu w x y=>t u w x y) λz=>NM L R K z L a h c d i) λaa=>jn (λab ac ad ae af=>aa ab ac ad ae af) λag=>NL L R K ag L a0 Te (A3 0) AV.dk H
def Sd:JZ Xt WW:=λL R K f ih c g h i j k d l e a b=>Ap Ab .lss a (A3 8) λm=>A2 m (OG AE c a Al b λn=>OG AE d a Al b λo=>Ar (Ap Al .add n o AL) λp=>D5 (GM Ci 1 Al 1 [(0,1,p)] b λv H=>some (v,H)) λq r=>D5 (E5 Ci 1 Al AE e q r λv H=>some (v,H)) λs t=>Ap Ab .add a (A3 1) λu=>ih c g h i j k d l s u t) (f e b)
def RZ:JY Xt WW:=Ky C! Sd
theorem kM:KU RZ Sd:=λ_ _ _ _ _=>rfl
def Sc:JZ xM WW:=λL R K m ih h i f j k g b e n o a=>Ap Ab .lss e (A3 64) λp=>A2 p (Ds AE b (A3 0) λq=>AD Al q a λc=>Ds AE b (A3 4) λr=>AD Al r a λd=>Ar (Ds AE b (A3 7) AL) λs=>Ar (AD Al s a AL) λt=>Ar (Ao R D0 [d,(A3 6)] a AL) λu=>Ar (Ao R D0 [d,(A3 11)] a AL) λw=>Ar (Ap Al .xor u w AL) λx=>Ar (Ao R D0 [d,(A3 25)] a AL) λy=>Ar (Ap Al .xor x y AL) λz=>Ar (Ap Al .add t z AL) λaa=>Ar (Ds AE b (A3 5) AL) λab=>Ar (AD Al ab a AL) λac=>Ar (Ap Al .and d ac AL) λad=>Ar (Mv .xor d AL) λae=>Ar (Ds AE b (A3 6) AL) λaf=>Ar (AD Al af a AL) λag=>Ar (Ap Al .and ae ag AL) λah=>Ar (Ap Al .xor ad ah AL) λai=>Ar (Ap Al .add aa ai AL) λaj=>OG AE g e Al a λak=>Ar (Ap Al .add aj ak AL) λal=>OG AE f e Al a λam=>Ar (Ap Al .add al am AL) λl=>Ar (Ao R D0 [c,(A3 2)] a AL) λan=>Ar (Ao R D0 [c,(A3 13)] a AL) λao=>Ar (Ap Al .xor an ao AL) λap=>Ar (Ao R D0 [c,(A3 22)] a AL) λaq=>Ar (Ap Al .xor ap aq AL) λar=>Ar (Ds AE b (A3 1) AL) λau=>Ar (AD Al au a AL) λav=>Ar (Ap Al .and c av AL) λaw=>Ar (Ds AE b (A3 2) AL) λax=>Ar (AD Al ax a AL) λay=>Ar (Ap Al .and c ay AL) λaz=>Ar (Ap Al .xor aw az AL) λa0=>Ar (Ds AE b (A3 1) AL) λa1=>Ar (AD Al a1 a AL) λa2=>Ar (Ds AE b (A3 2) AL) λa3=>Ar (AD Al a3 a AL) λa4=>Ar (Ap Al .and a2 a4 AL) λa5=>Ar (Ap Al .xor a0 a5 AL) λa6=>Ar (Ap Al .add ar a6 AL) λa7=>Ar (Ap Al .add l a7 AL) λa8=>Ar (Ds AE b (A3 1) AL) λa9=>Ar (AD Al a9 a AL) λaA=>Ar (Ds AE b (A3 2) AL) λaB=>Ar (AD Al aB a AL) λaC=>Ar (Ds AE b (A3 3) AL) λaD=>Ar (AD Al aD a AL) λaE=>Ar (Ap Al .add aE l AL) λaF=>Ar (Ds AE b (A3 5) AL) λaG=>Ar (AD Al aG a AL) λaH=>Ar (Ds AE b (A3 6) AL) λaI=>Ar (AD Al aI a AL) λaJ=>D5 (GM Ci 1 Al 8 [(0,1,a8),(1,1,c),(2,1,aA),(3,1,aC),(4,1,aF),(5,1,d),(6,1,aH),(7,1,aJ)] a λv H=>some (v,H)) λaK aL=>Ap Ab .add e (A3 1) λaM=>ih h i f j k g aK aM n o aL) (m h i f j k g b e a)
def RY:JY xM WW:=Ky C! Sc
theorem kL:KU RY Sc:=λ_ _ _ _ _=>rfl
def Sb:JZ F7N WW:=λL R K i ih d e c f b j k l g h a=>Ap Ab .lss b (A3 64) λm=>A2 m (Ar (Ap Ab .sub b (A3 15) AL) λn=>OG AE c n Al a λo=>Ar (Ao R D0 [o,(A3 7)] a AL) λp=>Ar (Ap Ab .sub b (A3 15) AL) λq=>OG AE c q Al a λr=>Ar (Ao R D0 [r,(A3 18)] a AL) λs=>Ar (Ap Al .xor p s AL) λt=>Ar (Ap Ab .sub b (A3 15) AL) λu=>OG AE c u Al a λw=>Ar (Ap Al .shr w (AV.v (.int .u64 3)) AL) λx=>Ar (Ap Al .xor t x AL) λy=>Ar (Ap Ab .sub b (A3 2) AL) λz=>OG AE c z Al a λaa=>Ar (Ao R D0 [aa,(A3 17)] a AL) λab=>Ar (Ap Ab .sub b (A3 2) AL) λac=>OG AE c ac Al a λad=>Ar (Ao R D0 [ad,(A3 19)] a AL) λae=>Ar (Ap Al .xor ab ae AL) λaf=>Ar (Ap Ab .sub b (A3 2) AL) λag=>OG AE c ag Al a λah=>Ar (Ap Al .shr ah (AV.v (.int .u64 10)) AL) λai=>Ar (Ap Al .xor af ai AL) λaj=>Ar (Ap Ab .sub b (A3 16) AL) λak=>OG AE c ak Al a λal=>Ar (Ap Al .add al y AL) λam=>Ar (Ap Ab .sub b (A3 7) AL) λan=>OG AE c an Al a λao=>Ar (Ap Al .add am ao AL) λap=>Ar (Ap Al .add ap aj AL) λaq=>D5 (GM Ci 1 Al 1 [(0,1,aq)] a λv H=>some (v,H)) λar au=>D5 (E5 Ci 1 Al AE c ar au λv H=>some (v,H)) λav aw=>Ap Ab .add b (A3 1) λax=>ih d e av f ax j k l g h aw) (i d e c f b g h a)
def RX:JY F7N WW:=Ky C! Sb
theorem kK:KU RX Sb:=λ_ _ _ _ _=>rfl
def Sa:JZ F9N WW:=λL R K k ih d b e a l f g h i j c=>Ap Ab .lss a (A3 16) λm=>A2 m (Ar (Ap Ab .mul (A3 4) a AL) λn=>OG AW b n Bl c λo=>Ar (Jc Bl Al o AL) λp=>Ar (Ap Al .shl p (AV.v (.int .u64 24)) AL) λq=>Ar (Ap Ab .mul (A3 4) a AL) λr=>Ar (Ap Ab .add r (A3 1) AL) λs=>OG AW b s Bl c λt=>Ar (Jc Bl Al t AL) λu=>Ar (Ap Al .shl u (AV.v (.int .u64 16)) AL) λw=>Ar (Ap Al .or q w AL) λx=>Ar (Ap Ab .mul (A3 4) a AL) λy=>Ar (Ap Ab .add y (A3 2) AL) λz=>OG AW b z Bl c λaa=>Ar (Jc Bl Al aa AL) λab=>Ar (Ap Al .shl ab (AV.v (.int .u64 8)) AL) λac=>Ar (Ap Al .or x ac AL) λad=>Ar (Ap Ab .mul (A3 4) a AL) λae=>Ar (Ap Ab .add ae (A3 3) AL) λaf=>OG AW b af Bl c λag=>Ar (Jc Bl Al ag AL) λah=>Ar (Ap Al .or ad ah AL) λai=>D5 (GM Ci 1 Al 1 [(0,1,ai)] c λv H=>some (v,H)) λaj ak=>D5 (E5 Ci 1 Al AE e aj ak λv H=>some (v,H)) λal am=>Ap Ab .add a (A3 1) λan=>ih d b al an l f g h i j am) (k d b e a f g h i j c)
def RW:JY F9N WW:=Ky C! Sa
theorem kJ:KU RW Sa:=λ_ _ _ _ _=>rfl
def Ud:Jq:=λL R a0 a1 H K=>jn (λc d e f g h i j k l=>jn (λa m n o p q r b=>Ao R Ow [] b λs=>E5 Ci 1 Al AE Te a b λt u=>jn (λv w x y z aa ab ac ad=>jn (λae af=>K ae af) λag=>jn (λah ai=>ag ah ai) λaj=>RZ L R K aj L v w x y z aa ab ac Te (A3 0) ad) λak=>jn (λal am an ao ap aq ar au av=>ak al am an ao ap aq ar au av) λaw=>RY L R K aw L a m n o p s t (A3 0) q r u) λax=>jn (λay az a2 a3 a4 a5 a6 a7=>ax ay az a2 a3 a4 a5 a6 a7) λa8=>RX L R K a8 L c d e f (A3 16) g h i j k l) λa9=>jn (λaA aB aC aD aE aF aG aH aI aJ=>a9 aA aB aC aD aE aF aG aH aI aJ) λaK=>RW L R K aK L a0 a1 Te (A3 0) AV.dk AV.dk AV.dk AV.dk AV.dk AV.dk H
def KP:Jq:=λL R a0 a1 H K=>Lr 83 L R a0 a1 H K _
def Mi:IX:=λL R a0 H K=>Ao R Dw [a0] H λa=>R.call Ef [a] H λb c=>K b c
def Oh:Jq:=λL R a0 a1 H K=>Lr 85 L R a0 a1 H K _
def GO:JZ Xt WV:=λL R K e ih a d b c=>Bm Ac a λf=>Ap Ab .lss b f λg=>A2 g (HR Ac a b Ak c λh=>eMM true d h λi=>Ap Ab .add b (A3 1) λj=>ih a i j c) (e d c)
def GN:JY Xt WV:=Ky z3N GO
theorem NH:KU GN GO:=λ_ _ _ _ _=>rfl
def HC:IX:=λL R a0 H K=>jn (λa=>Ds Ac a0 (A3 0) λb=>AD Ak b a λc=>jn (λd e=>K d e) λf=>jn (λg h=>f g h) λi=>GN L R K i L a0 c (A3 1) a) λj=>Bm Ac a0 λk=>Ap Ab .lss k (A3 1) λl=>A2 l (none) (j H)
def Og:Jq:=λL R a0 a1 H K=>Lr 87 L R a0 a1 H K _
def AF:Operand×Array Tmp×Code×Code:=WY (c88) 0
def Da:Jq:=λL R a0 a1 H K=>Hr Bs a0 H λa e=>jn (λf c=>AD Ay f c λg=>K g c) λh=>jn (λi j=>h i j) λd=>nQ R 13 a1 [(2,a),(4,Te),(5,AV.dk),(6,a1),(7,AV.dk),(8,AV.dk),(9,AV.dk),(10,AV.dk),(11,AV.dk)] (AF).2.1 (AF).2.2.1 (AF).2.2.2 e λk b=>mW k (d a b) (K Te b) (λl=>@Bool.rec (λ_=>Af) (none) (d a b) (Nat.beq l 0)) (λ_=>none)
theorem Hy(L:Nat)(R:Rt)(c2:AV)(c4:AV)(c5:AV)(c6:AV)(c7:AV)(c8:AV)(c9:AV)(c10:AV)(c11:AV)(a0:AV)(P:Hp->Ru->Af)(Q:Exit->Ru)(H:Hp):rdK (λcf=>OK (E L) R cf) 13 [(2,c2),(4,c4),(5,c5),(6,c6),(7,c7),(8,c8),(9,c9),(10,c10),(11,c11)] (AF).2.1 [a0] (AF).2.2.1 (AF).2.2.2 H P Q=Bz Ad Ae H λb c=>E4 Ae b a0 c λd=>P d λa=>AD Ay c2 a λe=>AD Ae b a λf=>GM Ad 68 Ae 1 [(0,68,f)] a λg h=>E5 Ad 68 Ae Ay e g h λi j=>E4 Ay c2 i j λk=>Q .normal k:=by kernel_rfl
def BY:JZ Ru UE:=λL R K g ih c a h=>YB a h λi b=>C9 i 0 λj=>A2 j (ZE a b λk=>C9 k 1 λl=>Bz Ad Ae b λd m=>E4 Ae d l m λe=>AD Ae d e λn=>Ct (E L) R c [n] e λo f=>Mv .not o λp=>A2 p (K (AV.tup []) f) (ih c a f)) (g b)
def BX:JY Ru UE:=Ky z2N BY
theorem EZ:KU BX BY:=λ_ _ _ _ _=>rfl
def Bx:Jq:=λL R a0 a1 H K=>AD Ai a1 H λa=>WN a H λb c=>jn (λd=>K (AV.tup []) d) λe=>BX L R K e L a0 b c
def GA:Jq:=λL R a0 a1 H K=>Lr 90 L R a0 a1 H K _
def Ig:JZ Ru eF:=λL R K h ih c d e f b a=>Ap Ab .lss b f λi=>A2 i (HR Ac e b Ak a λj=>AD BF d a λk=>Lh k λl=>Em 0 l Ai a λm=>LW j λn=>Zi Ae false m n a λo=>Ao R Ld [o] a λp=>Ct (E L) R c [p] a λq g=>Mv .not q λr=>A2 r (K (AV.tup []) g) (Ap Ab .add b (A3 1) λs=>ih c d e f s g)) (h a)
def Ie:JY Ru eF:=Ky z5N Ig
theorem Pm:KU Ie Ig:=λ_ _ _ _ _=>rfl
def I3:Y3N:=λL R a0 a1 a2 H K=>AD Ac a1 H λa=>Bm Ac a λb=>jn (λc=>K (AV.tup []) c) λd=>Ie L R K d L a0 a2 a b (A3 0) H
def Oi:IX:=λL R a0 H K=>Hr Ad a0 H λa k=>Bz Ad Ae k λe b=>CY 26 a λl=>Em 2 l AB b λm=>Ao R Ft [m] b λn=>CY 26 a λo=>CY 2 o λp=>E4 AB p n b λf=>Em 31 a Ac f λq=>R.call Bi [q] f λr s=>CY 31 a λt=>E4 Ac t r s λc=>CY 32 a λu=>Em 1 u Am c λv=>Ao R DS [v] c λw=>CY 32 a λx=>CY 1 x λy=>E4 Am y w c λd=>CY 32 a λz=>Em 2 z A0 d λaa=>Ao R DT [aa] d λab=>CY 32 a λac=>CY 2 ac λad=>E4 A0 ad ab d λg=>CY 65 a λae=>Em 1 ae Ac g λaf=>R.call Bi [af] g λag ah=>CY 65 a λai=>CY 1 ai λaj=>E4 Ac aj ag ah λh=>CY 65 a λak=>Em 2 ak Ac h λal=>R.call Bi [al] h λam an=>CY 65 a λao=>CY 2 ao λap=>E4 Ac ap am an λi=>AD Ae a i λaq=>E4 Ae e aq i λj=>AD Ae e j λar=>K ar j
def DI:JZ Ru QV:=λL R K g ih c d e a b=>Ap Ab .lss a e λh=>A2 h (HR Ac c a Ak b λi=>Ct (E L) R d [i] b λj f=>A2 j (K a f) (Ap Ab .add a (A3 1) λk=>ih c d e k f)) (g b)
def DH:JY Ru QV:=Ky vK DI
theorem Hv:KU DH DI:=λ_ _ _ _ _=>rfl
def DQ:Jq:=λL R a0 a1 H K=>jn (λa=>K (A3 (-1)) a) λb=>Bm Ac a0 λc=>jn (λd=>b d) λe=>DH L R K e L a0 a1 c (A3 0) H
def EE:IX:=λL R a0 H K=>R.call IF [Te,a0] H λa b=>K a b
def Cc:JZ Ru UE:=λL R K e ih c a f=>YB a f λg b=>C9 g 0 λh=>A2 h (ZE a b λi=>C9 i 0 λj=>Ct (E L) R c [j] b λk d=>Mv .not k λl=>A2 l (K (AV.tup []) d) (ih c a d)) (e b)
def B1:JY Ru UE:=Ky z2N Cc
theorem Fi:KU B1 Cc:=λ_ _ _ _ _=>rfl
def Cj:Jq:=λL R a0 a1 H K=>AD Ai a1 H λa=>WN a H λb c=>jn (λd=>K (AV.tup []) d) λe=>B1 L R K e L a0 b c
def Gn:JZ F6N F6N:=λL R K i ih b c g d e a f=>Ap Ab .lss a e λj=>A2 j (HR Ac d a Ak f λk=>Ct (E L) R b [c,k] f λl h=>Mv .not l λm=>A2 m (K (AV.tup []) h) (Ap Ab .add a (A3 1) λn=>ih b c g d e n h)) (i b c g d e a f)
def Gj:JY F6N F6N:=Ky z6N Gn
theorem K9:KU Gj Gn:=λ_ _ _ _ _=>rfl
def Gp:JZ Ru F6N:=λL R K g ih h af a ag ah ai i=>YB a i λj b=>C9 j 0 λk=>A2 k (jn (λl m n o p q r=>ih l m n o p q r) λs=>ZE a b λc=>C9 c 0 λt=>C9 c 1 λu=>Bz Ad Ae b λd v=>E4 Ae d u v λe=>Em 31 d Ac e λf=>Bm Ac f λw=>jn (λx y z aa ab ac ad=>s x y z aa ab ac ad) λae=>Gj L R K ae L h t a f w (A3 0) e) (g b)
def Gk:JY Ru F6N:=Ky z6N Gp
theorem KA:KU Gk Gp:=λ_ _ _ _ _=>rfl
def GD:Jq:=λL R a0 a1 H K=>AD Ai a1 H λa=>WN a H λb c=>jn (λd=>K (AV.tup []) d) λe=>Gk L R K e L a0 AV.dk b AV.dk AV.dk AV.dk c
def E3:IX:=λL R a0 H K=>Iu 97 L R a0 H K _
def Dr:JZ Xt F9N:=λL R K f ih g h c i j k d e a b=>Ap Ab .lss a e λl=>A2 l (HR EM d a Ac b λm=>E5 Av 1 Ak Ac c m b λn o=>Ap Ab .add a (A3 1) λp=>ih g h n i j k d e p o) (f c b)
def FN:JY Xt F9N:=Ky z9N Dr
theorem Fo:KU FN Dr:=λ_ _ _ _ _=>rfl
def Dq:JZ eF F9N:=λL R K h ih e f i b c a j k l d=>Ap Ab .lss a c λm=>A2 m (jn (λn o=>Ap Ab .add a (A3 1) λp=>ih e n i b c p j k l o) λq=>jn (λr s=>q r s) λt=>HR EM b a Ac d λu=>Bm Ac u λv=>Ap Ab .add f v λg=>Ap Ab .lss g (A3 0) λw=>A2 w (none) (t g d)) (h e f b c a d)
def Jb:JY eF F9N:=Ky z9N Dq
theorem Fm:KU Jb Dq:=λ_ _ _ _ _=>rfl
def Gc:IX:=λL R a0 H K=>jn (λa b c d e f=>R.call EW [Te,b] f λg h=>jn (λi j=>K i j) λk=>Bm EM a λl=>jn (λm n=>k m n) λo=>FN L R K o L a b g c d e a l (A3 0) h) λp=>Bm EM a0 λq=>jn (λr s t u v w=>p r s t u v w) λx=>Jb L R K x L a0 (A3 0) AV.dk a0 q (A3 0) AV.dk AV.dk AV.dk H
def Ec:Operand×Array Tmp×Code×Code:=WY (c99) 0
def QC:IX:=λL R a0 H K=>Ao R L7 [a0] H λe=>C9 e 0 λi=>C9 e 1 λy=>Bz CC Ai H λb j=>E4 Ai b i j λk=>LC F6 k λl m=>Bz CN CD m λa n=>E4 CD a l n λc=>jn (λo f=>AD CD o f λp=>R.call Ks [p] f λq r=>K q r) λs=>AD Ai b c λt=>Ao R Fk [t] c λg=>jn (λu v=>s u v) λh=>nQ R 27 g [(2,Te),(3,b),(5,a),(7,AV.dk),(15,g),(17,AV.dk),(18,AV.dk),(19,AV.dk),(20,AV.dk),(21,AV.dk),(22,AV.dk),(23,AV.dk),(24,AV.dk)] (Ec).2.1 (Ec).2.2.1 (Ec).2.2.2 c λw d=>mW w (h a d) (K Te d) (λx=>@Bool.rec (λ_=>Af) (none) (h a d) (Nat.beq x 0)) (λ_=>none)
theorem dC(L:Nat)(R:Rt)(c2:AV)(c3:AV)(c5:AV)(c7:AV)(c15:AV)(c17:AV)(c18:AV)(c19:AV)(c20:AV)(c21:AV)(c22:AV)(c23:AV)(c24:AV)(a0:AV)(a1:AV)(P:Hp->Ru->Af)(Q:Exit->Ru)(H:Hp):rdK (λcf=>OK (E L) R cf) 27 [(2,c2),(3,c3),(5,c5),(7,c7),(15,c15),(17,c17),(18,c18),(19,c19),(20,c20),(21,c21),(22,c22),(23,c23),(24,c24)] (Ec).2.1 [a0,a1] (Ec).2.2.1 (Ec).2.2.2 H P Q=P H λa=>jn (λc=>Q .normal c) λb=>AD Ai c3 a λd=>Ao R Fj [d,a1] a λe=>Mv .not e λf=>A2 f (AD CD c5 a λg=>Ca F6 [] λh=>LW a1 λi=>Mm g i h a λj=>b j) (b a):=by kernel_rfl
def Gi:IX:=λL R a0 H K=>Iu 102 L R a0 H K _
def G8:JZ Ru QV:=λL R K g ih c d e b a=>Ap Ab .lss b e λh=>A2 h (HR Bj d b Ab a λi=>Ao R KF [i] a λf=>C9 f 0 λj=>C9 f 1 λo=>Lh c λk=>CY 0 k λl=>R.call BE [l,j] a λp m=>Ap Ab .add b (A3 1) λn=>ih c d e n m) (g a)
def G7:JY Ru QV:=Ky vK G8
theorem Nz:KU G7 G8:=λ_ _ _ _ _=>rfl
def GU:Jq:=λL R a0 a1 H K=>Bm Bj a1 λa=>jn (λb=>K (AV.tup []) b) λc=>G7 L R K c L a0 a1 a (A3 0) H
def HB:JZ Ru QV:=λL R K g ih c d e b a=>Ap Ab .lss b e λh=>A2 h (HR Ac d b Ak a λi=>Ao R PJ [i] a λf=>C9 f 0 λj=>C9 f 1 λo=>Lh c λk=>CY 0 k λl=>R.call BE [l,j] a λp m=>Ap Ab .add b (A3 1) λn=>ih c d e n m) (g a)
def Hz:JY Ru QV:=Ky vK HB
theorem OM:KU Hz HB:=λ_ _ _ _ _=>rfl
def Im:Jq:=λL R a0 a1 H K=>Bm Ac a1 λa=>jn (λb=>K (AV.tup []) b) λc=>Hz L R K c L a0 a1 a (A3 0) H
def GQ:JZ Ru QV:=λL R K h ih e f g a b=>Ap Ab .lss a g λi=>A2 i (HR Jl f a A6 b λj=>Bz Br A6 b λc k=>E4 A6 c j k λd=>Em 0 c Ak d λl=>Em 1 c Ak d λm=>GM Av 1 Ak 2 [(0,1,l),(1,1,m)] d λn o=>R.call Cz [e,n] o λr p=>Ap Ab .add a (A3 1) λq=>ih e f g q p) (h b)
def GP:JY Ru QV:=Ky vK GQ
theorem NT:KU GP GQ:=λ_ _ _ _ _=>rfl
def HH:Jq:=λL R a0 a1 H K=>Bm Jl a1 λa=>jn (λb=>K (AV.tup []) b) λc=>GP L R K c L a0 a1 a (A3 0) H
def MU:JZ UE xM:=λL R K i ih e a j k l f g b c=>Ap Ab .lss b g λm=>A2 m (HR A0 f b AO c λn=>Bz AU AO c λh o=>E4 AO h n o λd=>AD AO h d λp=>Ao R FG [p] d λq=>Ap Ak .add q (WX [10]) λr=>R.call BE [a,r] d λu s=>Ap Ab .add b (A3 1) λt=>ih e a j k l f g t s) (i e a c)
def MS:JY UE xM:=Ky z8N MU
theorem XP:KU MS MU:=λ_ _ _ _ _=>rfl
def MT:JZ eF xM:=λL R K j ih g b c d a k l m e=>Ap Ab .lss a d λn=>A2 n (HR Am c a A1 e λo=>Bz AA A1 e λh p=>E4 A1 h o p λf=>AD A1 h f λq=>Ao R Jw [q] f λi=>C9 i 0 λr=>C9 i 1 λw=>Ap Ak .add (WX [103,105,118,101,110,32]) r λs=>Ap Ak .add s (WX [10]) λt=>R.call BE [b,t] f λx u=>Ap Ab .add a (A3 1) λv=>ih g b c d v k l m u) (j g b c d a e)
def MR:JY eF xM:=Ky z8N MT
theorem XO:KU MR MT:=λ_ _ _ _ _=>rfl
def Oa:IX:=λL R a0 H K=>Hr Cx a0 H λa b=>AD AS a b λm=>Ao R Gu [m] b λn=>Mv .not n λo=>A2 o (K (AV.tup [(WX []),(A3 90)]) b) (Bz E6 BG b λe c=>Em 0 a Ab c λp=>Ao R BQ [p] c λq=>Ap Ak .add (WX [112,114,111,99,101,100,117,114,101,32]) q λr=>Ap Ak .add r (WX [10]) λs=>R.call BE [e,s] c λaw f=>jn (λg t u v w h=>jn (λx i d=>Em 3 x A1 d λy=>Ao R Jw [y] d λj=>C9 j 0 λz=>C9 j 1 λax=>Ap Ak .add (WX [111,117,116,112,117,116,32]) z λaa=>Ap Ak .add aa (WX [10]) λab=>R.call BE [i,ab] d λay ac=>R.call EJ [i] ac λad ae=>K (AV.tup [ad,(A3 0)]) ae) λaf=>Em 2 g A0 h λk=>Bm A0 k λag=>jn (λah ai aj=>af ah ai aj) λak=>MS L R K ak L g t u v w k ag (A3 0) h) λal=>Em 1 a Am f λl=>Bm Am l λam=>jn (λan ao ap aq ar au=>al an ao ap aq ar au) λav=>MR L R K av L a e l am (A3 0) AV.dk AV.dk AV.dk f)
def JR:IX:=λL R a0 H K=>Iu 110 L R a0 H K _
def IM:IX:=λL R a0 H K=>Iu 111 L R a0 H K _
def I0:Jq:=λL R a0 a1 H K=>Hr Pd a0 H λc d=>Hr Hd a1 d λa b=>jn (λe=>K (AV.fn (.func Jx) [] [c,a]) e) λf=>AD Ab a b λg=>Ap Ab .lss g (A3 1) λh=>A2 h (none) (f b)
def KM:JZ Ru F6N:=λL R K e ih c f d g h a b=>Ap Ab .lss a (A3 8) λi=>A2 i (Ar (Lh c AL) λj=>OG AP j a Al b λk=>OG AP d a Al b λl=>Ar (Ap Al .add k l AL) λm=>Ar (Lh c AL) λn=>Ar (Ds AP n a AL) λo=>D5 (E4 Al o m b λH=>some (AV.v undef,H)) λr p=>Ap Ab .add a (A3 1) λq=>ih c f d g h q p) (e b)
def KK:JY Ru F6N:=Ky z6N KM
theorem UV:KU KK KM:=λ_ _ _ _ _=>rfl
def KL:JZ eF F6N:=λL R K k ih h d a e c l b=>Ap Ab .lss c (A3 64) λm=>A2 m (iO Cn Al e c λn=>Ar (Ds AP a (A3 0) AL) λo=>Ar (AD Al o b AL) λf=>Ar (Ds AP a (A3 4) AL) λp=>Ar (AD Al p b AL) λg=>Ar (Ds AP a (A3 7) AL) λq=>Ar (AD Al q b AL) λr=>Ar (YE 1 Ab 3 [(0,1,(A3 6)),(1,1,(A3 11)),(2,1,(A3 25))] AL) λs=>Ar (Ao R EK [g,s] b AL) λt=>Ar (Ap Al .add r t AL) λu=>Ar (Ds AP a (A3 5) AL) λw=>Ar (AD Al w b AL) λx=>Ar (Ap Al .and g x AL) λy=>Ar (Mv .xor g AL) λz=>Ar (Ds AP a (A3 6) AL) λaa=>Ar (AD Al aa b AL) λab=>Ar (Ap Al .and z ab AL) λac=>Ar (Ap Al .xor y ac AL) λad=>Ar (Ap Al .add u ad AL) λae=>Ar (Ap Al .add ae n AL) λaf=>OG Cn d c Al b λag=>Ar (Ap Al .add af ag AL) λi=>Ar (YE 1 Ab 3 [(0,1,(A3 2)),(1,1,(A3 13)),(2,1,(A3 22))] AL) λah=>Ar (Ao R EK [f,ah] b AL) λai=>Ar (Ds AP a (A3 1) AL) λaj=>Ar (AD Al aj b AL) λak=>Ar (Ap Al .and f ak AL) λal=>Ar (Ds AP a (A3 2) AL) λam=>Ar (AD Al am b AL) λan=>Ar (Ap Al .and f an AL) λao=>Ar (Ap Al .xor al ao AL) λap=>Ar (Ds AP a (A3 1) AL) λaq=>Ar (AD Al aq b AL) λar=>Ar (Ds AP a (A3 2) AL) λau=>Ar (AD Al au b AL) λav=>Ar (Ap Al .and ar av AL) λaw=>Ar (Ap Al .xor ap aw AL) λax=>Ar (Ap Al .add ai ax AL) λay=>Ar (xK 8 1 a (some (A3 1)) none b AL) λaz=>Ar (xK 8 1 a none (some (A3 7)) b AL) λa0=>D5 (A1S 1 az a0 b λv H=>some (v,H)) λaA j=>Ap Al .add i ay λa1=>Ds AP a (A3 4) λa2=>AD Al a2 j λa3=>Ap Al .add a3 i λa4=>Ds AP a (A3 0) λa5=>E4 Al a5 a1 j λa6=>Ds AP a (A3 4) λa7=>E4 Al a7 a4 a6 λa8=>Ap Ab .add c (A3 1) λa9=>ih h d a e a9 l a8) (k h d a e c b)
def KJ:JY eF F6N:=Ky z6N KL
theorem UU:KU KJ KL:=λ_ _ _ _ _=>rfl
def Lw:Jq:=λL R a0 a1 H K=>Ao R O8 [a1] H λe=>Bz Dj Cn H λa f=>E4 Cn a e f λb=>Lh a0 λg=>AD AP g b λh=>Bz BH AP b λc i=>E4 AP c h i λd=>jn (λj k l m n o=>jn (λp=>K (AV.tup []) p) λq=>KK L R K q L j k l m n (A3 0) o) λr=>AD Cn (AV.iptr gl0) d λs=>jn (λt u v w x y=>r t u v w x y) λz=>KJ L R K z L a0 a c s (A3 0) AV.dk d
def Kw:JZ F6N F6N:=λL R K h ih b c d e f a g=>Ap Ab .lss a (A3 4) λi=>A2 i (Ap Ab .mul (A3 4) c λj=>Ap Ab .add j a λk=>Ap Ab .mul (A3 8) a λl=>Ap Ab .sub (A3 24) l λm=>Ap Al .shr d m λn=>Jc Al Bl n λo=>Ds TC b k λp=>E4 Bl p o g λq=>Ap Ab .add a (A3 1) λr=>ih b c d e f r q) (h b c d e f a g)
def Ku:JY F6N F6N:=Ky z6N Kw
theorem Uv:KU Ku Kw:=λ_ _ _ _ _=>rfl
def Kx:JZ Xt F6N:=λL R K e ih b ag ah c a ai d=>Ap Ab .lss a (A3 8) λf=>A2 f (jn (λg h i j k l m=>Ap Ab .add k (A3 1) λn=>ih g h i j n l m) λo=>jn (λp q r s t u v=>o p q r s t u v) λw=>iO AP Al c a λx=>jn (λy z aa ab ac ad ae=>w y z aa ab ac ad ae) λaf=>Ku L R K af L b a x c a (A3 0) d) (e b d)
def Kv:JY Xt F6N:=Ky z6N Kx
theorem Uw:KU Kv Kx:=λ_ _ _ _ _=>rfl
def KR:IX:=λL R a0 H K=>Hr BH a0 H λc d=>Bz VB TC d λe b=>jn (λf a=>xK 32 1 f none none a λg=>xL g a λh=>K h a) λi=>AD AP c b λj=>jn (λk l=>i k l) λm=>Kv L R K m L e AV.dk AV.dk j (A3 0) AV.dk b
def K?:Jq:=λL R a0 a1 H K=>Lr 115 L R a0 a1 H K _
def oP:IX:=λL R a0 H K=>Iu 116 L R a0 H K _
def A16:Jq:=λL R a0 a1 H K=>Lr 122 L R a0 a1 H K _
def NV:Y3N:=λL R a0 a1 a2 H K=>Hr Cx a0 H λav aw=>Hr AU a1 aw λa y=>Em 0 a Ab y λax=>Ca AO [(0,1,ax)] λay=>Bz AU AO y λb az=>E4 AO b ay az λc=>Em 0 a Ab c λd=>Ap Ab .eql d (A3 1) λa3=>A2 a3 (Em 1 a A6 c λa4=>CY 1 b λa5=>E4 A6 a5 a4 c λz=>Em 3 a A1 z λa6=>CY 3 b λa7=>E4 A1 a7 a6 z λe=>Em 1 a A6 e λa8=>Ao R Fz [a8] e λa9=>Em 3 a A1 e λaA=>Ao R Fy [aA] e λaB=>AD AO a e λaC=>AD AO b e λaD=>Xp LB .eql aC aD λaa=>Dk aa e (some (a9,e)) λaE ab=>Ck aa aE HS λac=>Dk ac ab (some (aB,ab)) λaF aG=>Ck ac aF HS λaH=>K (AV.tup [aH,HS]) aG) (Ap Ab .eql d (A3 2) λaI=>A2 aI (Em 23 a Ab c λaJ=>CY 23 b λaK=>E4 Ab aK aJ c λm=>AD AO a m λaL=>AD AO b m λaM=>Xp LB .eql aL aM λg=>Xo g m 23 a Ab λaN aO=>Xo g aO 1 av Am λaP ad=>Dk g ad (Bm Am aP (CZ ad)) λaQ ae=>Dk g ae (Ap Ab .sub aQ (A3 1) (CZ ae)) λaR n=>Dk g n (Ao R D3 [aN,(A3 0),aR] n (CZ n)) λaS aT=>Ck g aS HS λaU=>K (AV.tup [aU,HS]) aT) (jn (λaV f=>A2 aV (Em 24 a Ab f λaW=>CY 24 b λaX=>E4 Ab aX aW f λaf=>Em 25 a Ab af λaY=>CY 25 b λaZ=>E4 Ab aZ aY af λo=>AD AO a o λba=>AD AO b o λbb=>Xp LB .eql ba bb λh=>Xo h o 24 a Ab λbc ag=>Dk h ag (some (a2,ag)) λbd ah=>Dk h ah (Ap Ab .sub bd (A3 1) (CZ ah)) λbe p=>Dk h p (Ao R D3 [bc,(A3 0),be] p (CZ p)) λbf bg=>Ck h bf HS λi=>Xo i bg 25 a Ab λbh ai=>Dk i ai (some (a2,ai)) λbi aj=>Dk i aj (Ap Ab .sub bi (A3 1) (CZ aj)) λbj q=>Dk i q (Ao R D3 [bh,(A3 0),bj] q (CZ q)) λbk bl=>Ck i bk HS λbm=>K (AV.tup [bm,Mf]) bl) (Ap Ab .eql d (A3 7) λbn=>A2 bn (Em 24 a Ab f λbo=>CY 24 b λbp=>E4 Ab bp bo f λak=>Em 23 a Ab ak λbq=>CY 23 b λbr=>E4 Ab br bq ak λr=>AD AO a r λbs=>AD AO b r λbt=>Xp LB .eql bs bt λj=>Xo j r 24 a Ab λbu al=>Dk j al (some (a2,al)) λbv am=>Dk j am (Ap Ab .sub bv (A3 1) (CZ am)) λbw s=>Dk j s (Ao R D3 [bu,(A3 0),bw] s (CZ s)) λbx bz=>Ck j bx HS λt=>Xo t bz 23 a Ab λb0 u=>Dk t u (Ao R D3 [b0,(A3 (-4)),(A3 4)] u (CZ u)) λb1 b2=>Ck t b1 HS λv=>Xo v b2 23 a Ab λb3 an=>Dk v an (Ap Ab .neq b3 (A3 0) (CZ an)) λb4 b5=>Ck v b4 HS λb6=>K (AV.tup [b6,Mf]) b5) (Ap Ab .eql d (A3 8) λb7=>A2 b7 (Em 24 a Ab f λb8=>CY 24 b λb9=>E4 Ab b9 b8 f λw=>AD AO a w λbA=>AD AO b w λbB=>Xp LB .eql bA bB λk=>Xo k w 24 a Ab λbC ao=>Dk k ao (some (a2,ao)) λbD ap=>Dk k ap (Ap Ab .sub bD (A3 1) (CZ ap)) λbE x=>Dk k x (Ao R D3 [bC,(A3 0),bE] x (CZ x)) λbF bG=>Ck k bF HS λbH=>K (AV.tup [bH,Mf]) bG) (K (AV.tup [HS,HS]) f)))) λl=>Ap Ab .eql d (A3 3) λaq=>A2 aq (l aq c) (Ap Ab .eql d (A3 4) λar=>A2 ar (l ar c) (Ap Ab .eql d (A3 5) λau=>A2 au (l au c) (Ap Ab .eql d (A3 6) λbI=>l bI c)))))
def tE:IX:=λL R a0 H K=>Iu 128 L R a0 H K _
def RU:JZ Ru UE:=λL R K ai ih g c d=>Em 2 g AB d λaj=>Bm AB aj λak=>Ap Ab .lss c ak λal=>A2 al (Em 2 g AB d λam=>HR AB am c BU d λan=>Bz Ba BU d λb ao=>E4 BU b an ao λh=>Em 1 b A6 h λap=>Ao R Fz [ap] h λaq=>Ar (Mv .not aq AL) λe=>Hl e h (Ar (CY 1 b AL) (CZ h)) λar k=>Hl e k (Ar (AD A6 ar k AL) (CZ k)) λau l=>Hl e l (Ar (Ao R ME [(A3 0)] l AL) (CZ l)) λav r=>Hl e r (Ar (Xp Ro .eql au av AL) (CZ r)) λaw s=>Ar (Ck e Mf aw AL) λi=>Hl i s (Ar (CY 0 b AL) (CZ s)) λax m=>Hl i m (Ar (AD Ab ax m AL) (CZ m)) λay t=>Hl i t (Ar (Ap Ab .lss ay (A3 1) AL) (CZ t)) λaz u=>Ar (Ck i Mf az AL) λj=>Hl j u (Ar (CY 0 b AL) (CZ u)) λa0 n=>Hl j n (Ar (AD Ab a0 n AL) (CZ n)) λa1 v=>Hl j v (Ar (Ap Ab .gtr a1 (A3 1000000) AL) (CZ v)) λa2 w=>Ar (Ck j Mf a2 AL) λf=>Hl f w (some (c,w)) λa3 x=>Hl f x (Ar (Ap Ab .gtr a3 (A3 0) AL) (CZ x)) λa4 y=>Hl f y (some (a4,y)) λa z=>Dk a z (Ar (CY 2 g AL) (CZ z)) λa5 o=>Dk a o (Ar (AD AB a5 o AL) (CZ o)) λa6 aa=>Dk a aa (some (c,aa)) λa7 ab=>Dk a ab (Ar (Ap Ab .sub a7 (A3 1) AL) (CZ ab)) λa8 ac=>Dk a ac (Ar (Ds AB a6 a8 AL) (CZ ac)) λa9 ad=>Dk a ad (Ar (CY 0 a9 AL) (CZ ad)) λaA p=>Dk a p (Ar (AD Ab aA p AL) (CZ p)) λaB ae=>Dk a ae (Ar (CY 0 b AL) (CZ ae)) λaC q=>Dk a q (Ar (AD Ab aC q AL) (CZ q)) λaD af=>Dk a af (Ar (Ap Ab .geq aB aD AL) (CZ af)) λaE ag=>Hl f ag (Ar (Ck a aE HS AL) (CZ ag)) λaF ah=>Ar (Ck f Mf aF AL) λaG=>A2 aG (K HS ah) (Ap Ab .add c (A3 1) λaH=>ih g aH ah)) (ai d)
def RS:JY Ru UE:=Ky z2N RU
theorem kI:KU RS RU:=λ_ _ _ _ _=>rfl
def Uc:IX:=λL R a0 H K=>Hr EG a0 H λc a=>Em 0 c A6 a λq=>Ao R Fz [q] a λr=>Em 3 c A6 a λs=>Ao R Fz [s] a λt=>Ar (Mv .not r AL) λe=>Hl e a (some (t,a)) λu j=>Hl e j (Ar (Mv .not u AL) (CZ j)) λv k=>Ar (Ck e Mf v AL) λb=>Hl b k (Ar (CY 3 c AL) (CZ k)) λw f=>Hl b f (Ar (AD A6 w f AL) (CZ f)) λx g=>Hl b g (Ar (Ao R ME [(A3 0)] g AL) (CZ g)) λy h=>Hl b h (Ar (Ao R QJ [x,y] h AL) (CZ h)) λz l=>Hl b l (Ar (Ap Ab .lss z (A3 0) AL) (CZ l)) λaa m=>Ar (Ck b Mf aa AL) λd=>Hl d m (Ar (CY 2 c AL) (CZ m)) λab i=>Hl d i (Ar (AD AB ab i AL) (CZ i)) λac n=>Hl d n (Ar (Bm AB ac AL) (CZ n)) λad o=>Hl d o (Ar (Ap Ab .gtr ad (A3 64) AL) (CZ o)) λae p=>Ar (Ck d Mf ae AL) λaf=>A2 af (K HS p) (jn (λag=>K Mf ag) λah=>jn (λai=>ah ai) λaj=>RS L R K aj L c (A3 0) p)
def Sj:Y3N:=λL R a0 a1 a2 H K=>q3N 131 L R a0 a1 a2 H K _
def LN:JZ WV WV:=λL R K e ih a c d b=>Ap Ab .lss d c λf=>A2 f (OG Ac a d Ak b λg=>OG Ac a c Ak b λh=>Ar (Ap Ak .eql g h AL) λi=>A2 i (Bm Ac a λj=>K (AV.tup [HS,j]) b) (Ap Ab .add d (A3 1) λk=>ih a c k b)) (e a c d b)
def LL:JY WV WV:=Ky z3N LN
theorem RK:KU LL LN:=λ_ _ _ _ _=>rfl
def LO:JZ Xt WV:=λL R K d ih a c aa b=>Bm Ac a λe=>Ap Ab .lss c e λf=>A2 f (jn (λg h i j=>Ap Ab .add h (A3 1) λk=>ih g k i j) λl=>jn (λm n o p=>l m n o p) λq=>HR Ac a c Ak b λr=>Bm Ak r λs=>Ap Ab .neq s (A3 32) λt=>A2 t (Bm Ac a λu=>K (AV.tup [HS,u]) b) (jn (λv w x y=>q v w x y) λz=>LL L R K z L a c (A3 0) b)) (d a b)
def LM:JY Xt WV:=Ky z3N LO
theorem RL:KU LM LO:=λ_ _ _ _ _=>rfl
def MH:IX:=λL R a0 H K=>jn (λb c=>Bm Ac b λf=>Ap Ab .geq f (A3 1) λa=>Dk a c (some (b,c)) λg d=>Dk a d (Bm Ac g (CZ d)) λh e=>Dk a e (Ap Ab .leq h (A3 6) (CZ e)) λi j=>Ck a i HS λk=>Bm Ac b λl=>K (AV.tup [k,l]) j) λm=>jn (λn o=>m n o) λp=>LM L R K p L a0 (A3 0) AV.dk H
def TZ:IX:=λL R a0 H K=>Iu 135 L R a0 H K _
def NK:JZ Xt WV:=λL R K f ih b d c a=>Bm Ac b λg=>Ap Ab .lss c g λh=>A2 h (HR Ac b c Ak a λi=>Ao R Ox [i] a λe=>C9 e 0 λj=>C9 e 1 λm=>Ap Ak .add d j λk=>Ap Ab .add c (A3 1) λl=>ih b k l a) (f d a)
def RJ:JY Xt WV:=Ky z3N NK
theorem UR:KU RJ NK:=λ_ _ _ _ _=>rfl
def PY:IX:=λL R a0 H K=>jn (λa b=>K a b) λc=>jn (λd e=>c d e) λf=>RJ L R K f L a0 (WX []) (A3 0) H
def TY:IX:=λL R a0 H K=>Iu 138 L R a0 H K _
def RP:JZ UE QV:=λL R K e ih b d f c a=>Em 2 b A0 a λg=>Bm A0 g λh=>Ap Ab .lss c h λi=>A2 i (Em 2 b A0 a λj=>HR A0 j c AO a λk=>Ao R Jy [k] a λl=>Ap Ak .add d l λm=>Ap Ak .add m (WX [10]) λn=>Ap Ab .add c (A3 1) λo=>ih b n f o a) (e b d a)
def RN:JY UE QV:=Ky vK RP
theorem kG:KU RN RP:=λ_ _ _ _ _=>rfl
def RO:JZ WV QV:=λL R K f ih b d c g a=>Em 1 b Am a λh=>Bm Am h λi=>Ap Ab .lss c i λj=>A2 j (Em 1 b Am a λk=>HR Am k c A1 a λl=>Ao R JH [l] a λe=>C9 e 0 λm=>C9 e 1 λr=>Ap Ak .add d (WX [103,105,118,101,110,32]) λn=>Ap Ak .add n m λo=>Ap Ak .add o (WX [10]) λp=>Ap Ab .add c (A3 1) λq=>ih b p q g a) (f b d c a)
def RM:JY WV QV:=Ky vK RO
theorem kF:KU RM RO:=λ_ _ _ _ _=>rfl
def Ua:IX:=λL R a0 H K=>Hr Cx a0 H λb a=>AD AS b a λe=>Ao R FY [e] a λf=>Mv .not f λg=>A2 g (K (AV.tup [(WX []),(A3 90)]) a) (Em 0 b Ab a λh=>Ao R BZ [h] a λi=>Ap Ak .add (WX [112,114,111,99,101,100,117,114,101,32]) i λj=>Ap Ak .add j (WX [10]) λk=>jn (λl m n o=>jn (λp q c=>Em 3 p A1 c λr=>Ao R JH [r] c λd=>C9 d 0 λs=>C9 d 1 λah=>Ap Ak .add q (WX [111,117,116,112,117,116,32]) λt=>Ap Ak .add t s λu=>Ap Ak .add u (WX [10]) λv=>K (AV.tup [v,(A3 0)]) c) λw=>jn (λx y z=>w x y z) λaa=>RN L R K aa L l m n (A3 0) o) λab=>jn (λac ad ae af=>ab ac ad ae af) λag=>RM L R K ag L b k (A3 0) AV.dk a)
def Q9:Jq:=λL R a0 a1 H K=>Lr 143 L R a0 a1 H K _
def NW:Y0N:=λL R H K=>q0N 144 L R H K _
def Du:IX:=λL R a0 H K=>Iu 148 L R a0 H K _
def Fq:IX:=λL R a0 H K=>Iu 149 L R a0 H K _
def Fp:IX:=λL R a0 H K=>Iu 150 L R a0 H K _
def XA2:IX:=λL R a0 H K=>Iu 151 L R a0 H K _
def Bp:Operand×Array Tmp×Code×Code:=WY (C3s) 0
def C4:Jq:=λL R a0 a1 H K=>Hr A5 a0 H λa e=>jn (λf c=>AD Ac f c λg=>K g c) λh=>jn (λi j=>h i j) λd=>nQ R 13 a1 [(2,a),(4,Te),(5,AV.dk),(6,a1),(7,AV.dk),(8,AV.dk),(9,AV.dk),(10,AV.dk),(11,AV.dk)] (Bp).2.1 (Bp).2.2.1 (Bp).2.2.2 e λk b=>mW k (d a b) (K Te b) (λl=>@Bool.rec (λ_=>Af) (none) (d a b) (Nat.beq l 0)) (λ_=>none)
theorem Hw(L:Nat)(R:Rt)(c2:AV)(c4:AV)(c5:AV)(c6:AV)(c7:AV)(c8:AV)(c9:AV)(c10:AV)(c11:AV)(a0:AV)(P:Hp->Ru->Af)(Q:Exit->Ru)(H:Hp):rdK (λcf=>OK (E L) R cf) 13 [(2,c2),(4,c4),(5,c5),(6,c6),(7,c7),(8,c8),(9,c9),(10,c10),(11,c11)] (Bp).2.1 [a0] (Bp).2.2.1 (Bp).2.2.2 H P Q=P H λa=>AD Ac c2 a λb=>GM Av 1 Ak 1 [(0,1,a0)] a λc d=>E5 Av 1 Ak Ac b c d λe f=>E4 Ac c2 e f λg=>Q .normal g:=by kernel_rfl
def D7:JZ Ru UE:=λL R K e ih c a f=>YB a f λg b=>C9 g 0 λh=>A2 h (ZE a b λi=>C9 i 0 λj=>Ct (E L) R c [j] b λk d=>Mv .not k λl=>A2 l (K (AV.tup []) d) (ih c a d)) (e b)
def D6:JY Ru UE:=Ky z2N D7
theorem Ji:KU D6 D7:=λ_ _ _ _ _=>rfl
def DF:Jq:=λL R a0 a1 H K=>AD CD a1 H λa=>WN a H λb c=>jn (λd=>K (AV.tup []) d) λe=>D6 L R K e L a0 b c
def Lz:Y3N:=λL R a0 a1 a2 H K=>q3N 166 L R a0 a1 a2 H K _
def SD:IX:=λL R a0 H K=>Iu 168 L R a0 H K _
def JC:IX:=λL R a0 H K=>Iu 169 L R a0 H K _
def Pp:IX:=λL R a0 H K=>Iu 173 L R a0 H K _
def A6C:Operand×Array Tmp×Code×Code:=WY (C3r) 0
def wM:IX:=λL R a0 H K=>Iu 174 L R a0 H K _
def G9:Jq:=λL R a0 a1 H K=>R.call Ka [a0] H λj a=>Lh a0 λb=>Em 1 b AW a λc=>E5 Bu 1 Bl Ak c a1 a λd e=>Lh a0 λf=>CY 1 f λg=>E4 AW g d e λh=>Bm Ak a1 λi=>K (AV.tup [i,(AV.v .nilIface)]) h
def lC:IX:=λL R a0 H K=>Iu 178 L R a0 H K _
def NZ:IX:=λL R a0 H K=>Iu 181 L R a0 H K _
def fK:JZ Xt eF:=λL R K h ih d e f g a b=>Ap Ab .lss a g λi=>A2 i (HR FJ f a Aa b λj=>Ct (E L) R j [d] b λk c=>Lh k λl=>AD Ab l c λm=>Ao R BQ [m] c λn=>Ap Ak .add (WX [32]) n λo=>Ap Ak .add e o λp=>Ap Ab .add a (A3 1) λq=>ih d p f g q c) (h e b)
def fJ:JY Xt eF:=Ky z5N fK
def Pt:IX:=λL R a0 H K=>Hr AU a0 H λb c=>Ar (Ao R I8 [] c AL) λe=>Ar (CY 0 b AL) λh=>Ar (AD Ab h c AL) λf=>Ar (Ws .i64 f λm=>Zi Bt false e m c AL) λi=>D5 (Bz C6 Bt c λv H=>some (v,H)) λg d=>D5 (E4 Bt g i d λH=>some (AV.v undef,H)) λag a=>Ra (Bc (Ao R I8 [] d AL) e) (Ra (Bc (AD Ab h d AL) f) (Ra (Bc (Ws .i64 f λn=>Zi Bt false e n d AL) i) (Em 0 g Ak a λj=>Em 0 b Ab a λo=>Ap Ab .eql o (A3 1) λp=>A2 p (Em 3 b A1 a λq=>Ao R Jw [q] a λk=>C9 k 0 λr=>C9 k 1 λah=>Ap Ak .add j (WX [32]) λs=>Em 1 b A6 a λt=>Ao R IJ [t] a λu=>Ap Ak .add s u λw=>Ap Ak .add w (WX [32]) λx=>Ap Ak .add x r λy=>K y a) (jn (λz aa=>K z aa) λab=>Em 1 g FJ a λl=>Bm FJ l λac=>jn (λad ae=>ab ad ae) λaf=>fJ L R K af L b j l ac (A3 0) a))))
def FP:JZ Ru QV:=λL R K h ih f c d a b=>AD AW c b λi=>Bm AW i λj=>Ap Ab .lss a j λk=>A2 k (Ar (AD Ab d b AL) λl=>Ar (AD AW c b AL) λm=>Ar (C8 AW m (some a) none none AL) λn=>Ar (Bm AW n AL) λo=>Ar (eMM true l o AL) λg=>AD AW c b λp=>Ap Ab .add a g λq=>Ap Ab .add a g λr=>C8 AW p (some a) (some q) (some r) λs=>Ct (E L) R f [s] b λt e=>Mv .not t λu=>A2 u (K (AV.tup []) e) (AD Ab d e λv=>Ap Ab .add a v λw=>ih f c d w e)) (h b)
def FO:JY Ru QV:=Ky vK FP
theorem Mz:KU FO FP:=λ_ _ _ _ _=>rfl
def Gf:Y3N:=λL R a0 a1 a2 H K=>jn (λa=>K (AV.tup []) a) λb=>FO L R K b L a0 a1 a2 (A3 0) H
def Nm:JZ Xt QV:=λL R K f ih g b c h a=>Ap Ab .lss c (A3 64) λi=>A2 i (Ar (Ap Ab .sub c (A3 15) AL) λj=>OG Cn b j Al a λd=>Ar (Ap Ab .sub c (A3 2) AL) λk=>OG Cn b k Al a λe=>Ar (Ap Ab .sub c (A3 16) AL) λl=>OG Cn b l Al a λm=>Ar (YE 1 Ab 2 [(0,1,(A3 7)),(1,1,(A3 18))] AL) λn=>Ar (Ao R EK [d,n] a AL) λo=>Ar (Ap Al .shr d (AV.v (.int .u64 3)) AL) λp=>Ar (Ap Al .xor o p AL) λq=>Ar (Ap Al .add m q AL) λr=>Ar (Ap Ab .sub c (A3 7) AL) λs=>OG Cn b s Al a λt=>Ar (Ap Al .add r t AL) λu=>Ar (YE 1 Ab 2 [(0,1,(A3 17)),(1,1,(A3 19))] AL) λw=>Ar (Ao R EK [e,w] a AL) λx=>Ar (Ap Al .shr e (AV.v (.int .u64 10)) AL) λy=>Ar (Ap Al .xor x y AL) λz=>Ar (Ap Al .add u z AL) λaa=>Ar (Ds Cn b c AL) λab=>D5 (E4 Al ab aa a λH=>some (AV.v undef,H)) λae ac=>Ap Ab .add c (A3 1) λad=>ih g b ad h ac) (f b a)
def Nk:JY Xt QV:=Ky vK Nm
theorem YG:KU Nk Nm:=λ_ _ _ _ _=>rfl
def Nl:JZ WV QV:=λL R K e ih b d f a c=>Ap Ab .lss a (A3 16) λg=>A2 g (Ar (Ap Ab .mul (A3 4) a AL) λh=>OG AW b h Bl c λi=>Ar (Jc Bl Al i AL) λj=>Ar (Ap Al .shl j (AV.v (.int .u64 24)) AL) λk=>Ar (Ap Ab .mul (A3 4) a AL) λl=>Ar (Ap Ab .add l (A3 1) AL) λm=>OG AW b m Bl c λn=>Ar (Jc Bl Al n AL) λo=>Ar (Ap Al .shl o (AV.v (.int .u64 16)) AL) λp=>Ar (Ap Al .or k p AL) λq=>Ar (Ap Ab .mul (A3 4) a AL) λr=>Ar (Ap Ab .add r (A3 2) AL) λs=>OG AW b s Bl c λt=>Ar (Jc Bl Al t AL) λu=>Ar (Ap Al .shl u (AV.v (.int .u64 8)) AL) λw=>Ar (Ap Al .or q w AL) λx=>Ar (Ap Ab .mul (A3 4) a AL) λy=>Ar (Ap Ab .add y (A3 3) AL) λz=>OG AW b z Bl c λaa=>Ar (Jc Bl Al aa AL) λab=>Ar (Ap Al .or x ab AL) λac=>Ar (Ds Cn d a AL) λad=>D5 (E4 Al ad ac c λH=>some (AV.v undef,H)) λag ae=>Ap Ab .add a (A3 1) λaf=>ih b d f af ae) (e b d a c)
def Nj:JY WV QV:=Ky vK Nl
theorem YF:KU Nj Nl:=λ_ _ _ _ _=>rfl
def Oj:IX:=λL R a0 H K=>Bz Dj Cn H λd e=>jn (λf g h i=>jn (λa b=>AD Cn a b λj=>E4 Cn a j b λc=>AD Cn a c λk=>K k c) λl=>jn (λm n=>l m n) λo=>Nk L R K o L f g (A3 16) h i) λp=>jn (λq r s t=>p q r s t) λu=>Nj L R K u L a0 d AV.dk (A3 0) e
def QN:JZ Xt eF:=λL R K g ih c d e f b a=>Ap Ab .lss b f λh=>A2 h (HR Bj e b Ab a λi=>Mv .neg i λj=>Ao R Ho [c,j] a λk=>Ap Al .xor d k λl=>Ap Ab .add b (A3 1) λm=>ih c l e f m a) (g d a)
def QM:JY Xt eF:=Ky z5N QN
theorem iS:KU QM QN:=λ_ _ _ _ _=>rfl
def S0:Jq:=λL R a0 a1 H K=>jn (λa b=>K a b) λc=>Bm Bj a1 λd=>jn (λe f=>c e f) λg=>QM L R K g L a0 (AV.v (.int .u32 0)) a1 d (A3 0) H
def wV:IX:=λL R a0 H K=>Iu 186 L R a0 H K _
def oQ:Jq:=λL R a0 a1 H K=>Lr 187 L R a0 a1 H K _
def A18:Jq:=λL R a0 a1 H K=>Lr 189 L R a0 a1 H K _
def A19:Jq:=λL R a0 a1 H K=>Lr 190 L R a0 a1 H K _
def L':Jq:=λL R a0 a1 H K=>Lr 191 L R a0 a1 H K _
def wQ:IX:=λL R a0 H K=>Iu 195 L R a0 H K _
def A17:Jq:=λL R a0 a1 H K=>Lr 196 L R a0 a1 H K _
def Sm:Y3N:=λL R a0 a1 a2 H K=>q3N 197 L R a0 a1 a2 H K _
def tD:IX:=λL R a0 H K=>Iu 201 L R a0 H K _
def oM:Jq:=λL R a0 a1 H K=>Lr 202 L R a0 a1 H K _
def RR:JZ UE WV:=λL R K n ih b e c a=>Em 2 b A0 a λo=>Bm A0 o λp=>Ap Ab .lss c p λq=>A2 q (Ar (AD AS b a AL) λf=>Ar (CY 2 b AL) λj=>Ar (AD A0 j a AL) λk=>Ar (Ds A0 k c AL) λl=>Ar (AD AO l a AL) λg=>Ar (Ao R CF [f,g,c,e] a AL) λh=>Ar (C9 h 0 AL) λr=>Ar (C9 h 1 AL) λs=>D5 (Bz AA A1 a λv H=>some (v,H)) λm d=>D5 (E4 A1 m r d λH=>some (AV.v undef,H)) λab i=>Ra (Bc (AD AS b d AL) f) (Ra (Bc (AD A0 j d AL) k) (Ra (Bc (AD AO l d AL) g) (Ra (Bc (Ao R CF [f,g,c,e] d AL) h) (Ap Ab .neq s (A3 0) λt=>A2 t (K (AV.tup [Te,c,(A3 90)]) i) (AD A1 m i λu=>GM AA 20 A1 1 [(0,20,u)] i λw x=>E5 AA 20 A1 Am e w x λy z=>Ap Ab .add c (A3 1) λaa=>ih b y aa z)))))) (n b e a)
def RQ:JY UE WV:=Ky z3N RR
theorem kH:KU RQ RR:=λ_ _ _ _ _=>rfl
def Ub:IX:=λL R a0 H K=>Hr Cx a0 H λd b=>AD AS d b λg=>Ao R Ov [g] b λe=>C9 e 0 λh=>C9 e 1 λv=>Mv .not h λi=>A2 i (K (AV.tup [Te,(A3 (-1)),(A3 90)]) b) (jn (λf c a=>Ar (Bm Am c AL) λj=>Ar (Ap Ab .sub j (A3 1) AL) λk=>OG Am c k A1 a λl=>Xh 3 f A1 a λm=>Ar (Xp L9 .neq l m AL) λn=>A2 n (Xh 2 f A0 a λo=>Ar (Bm A0 o AL) λp=>K (AV.tup [Te,p,(A3 90)]) a) (K (AV.tup [c,(A3 0),(A3 0)]) a)) λq=>jn (λr s t=>q r s t) λu=>RQ L R K u L d Te (A3 0) b)
def wR:IX:=λL R a0 H K=>Iu 208 L R a0 H K _
def NX:IX:=λL R a0 H K=>Iu 210 L R a0 H K _
def Wa:IX:=λL R a0 H K=>Iu 212 L R a0 H K _
def CW:JZ Ru UE:=λL R K e ih c a f=>YB a f λg b=>C9 g 0 λh=>A2 h (ZE a b λi=>C9 i 0 λj=>Ct (E L) R c [j] b λk d=>Mv .not k λl=>A2 l (K (AV.tup []) d) (ih c a d)) (e b)
def Cg:JY Ru UE:=Ky z2N CW
theorem HI:KU Cg CW:=λ_ _ _ _ _=>rfl
def Dc:Jq:=λL R a0 a1 H K=>AD Ai a1 H λa=>WN a H λb c=>jn (λd=>K (AV.tup []) d) λe=>Cg L R K e L a0 b c
def lB:IX:=λL R a0 H K=>Iu 222 L R a0 H K _
def Ng:IX:=λL R a0 H K=>Iu 227 L R a0 H K _
def HN:JZ Ru eF:=λL R K ae ih i d j k b e=>Ap Ab .lss b k λaf=>A2 af (HR AB j b BU e λag=>Bz Ba BU e λl ah=>E4 BU l ag ah λm=>AD BU l m λai=>Ct (E L) R d [ai] m λf n=>Ap Ab .lss f (A3 1) λg=>Hl g n (some (f,n)) λaj o=>Hl g o (Ap Ab .gtr aj (A3 1000000) (CZ o)) λak p=>Ck g Mf ak λc=>Hl c p (some (b,p)) λal q=>Hl c q (Ap Ab .gtr al (A3 0) (CZ q)) λam r=>Hl c r (some (am,r)) λa s=>Dk a s (some (d,s)) λan t=>Dk a t (some (i,t)) λao u=>Dk a u (some (b,u)) λap w=>Dk a w (Ap Ab .sub ap (A3 1) (CZ w)) λaq x=>Dk a x (eMM false aq (A3 0) (CZ x)) λar y=>Dk a y (Ds AB ao ar (CZ y)) λau h=>Dk a h (AD BU au h (CZ h)) λav z=>Dk a z (Ct (E L) R an [av] z λv H=>some (v,H)) λaw aa=>Dk a aa (some (f,aa)) λax ab=>Dk a ab (Ap Ab .geq aw ax (CZ ab)) λay ac=>Hl c ac (Ck a ay HS (CZ ac)) λaz ad=>Ck c Mf az λa0=>A2 a0 (K HS ad) (Ap Ab .add b (A3 1) λa1=>ih i d j k a1 ad)) (ae e)
def HM:JY Ru eF:=Ky z5N HN
theorem OV:KU HM HN:=λ_ _ _ _ _=>rfl
def Ip:Jq:=λL R a0 a1 H K=>jn (λa=>K Mf a) λb=>Bm AB a0 λc=>jn (λd=>b d) λe=>HM L R K e L a0 a1 a0 c (A3 0) H
def QD:IX:=λL R a0 H K=>Iu 231 L R a0 H K _
def Ee:Jq:=λL R a0 a1 H K=>Lr 232 L R a0 a1 H K _
def JD:IX:=λL R a0 H K=>Ao R Gq [a0] H λm=>R.call Ef [m] H λn c=>Bm Ac a0 λo=>Ao R FH [o,(A3 1),(A3 6)] c λb=>Dk b c (some (a0,c)) λp e=>Dk b e (some ((AV.fn (.func El) [] []),e)) λq d=>Dk b d (Ao R B2 [p,q] d (CZ d)) λr f=>Dk b f (Mv .not r (CZ f)) λs g=>Ck b s HS λa=>Dk a g (some (n,g)) λt h=>Dk a h (R.call Cq [t] h λv H=>some (v,H)) λu i=>Dk a i (Bm Ac u (CZ i)) λw j=>Dk a j (some (a0,j)) λx k=>Dk a k (Bm Ac x (CZ k)) λy l=>Dk a l (Ap Ab .eql w y (CZ l)) λz aa=>Ck a z HS λab=>K ab aa
def wL:IX:=λL R a0 H K=>Iu 239 L R a0 H K _
def HE:IX:=λL R a0 H K=>Lh a0 λa=>Em 0 a Cm H λb=>Rs Cm BG .eql b (AV.v (.pointer none)) λc=>A2 c (A1J BG a0 H λd=>A1E A3E E6 d H λe=>Lh a0 λf=>CY 0 f λg=>E4 Cm g e H λh=>K (AV.tup []) h) (Lh a0 λi=>Em 0 i Cm H λj=>Rs Cm BG .neq j a0 λk=>A2 k (none) (K (AV.tup []) H))
def MW:JZ UE eF:=λL R K j ih d b e f a c=>Ap Ab .lss a f λk=>A2 k (HR A0 e a AO c λl=>Bz AU AO c λg m=>E4 AO g l m λh=>AD AO g h λn=>R.call Jj [b,n] h λo i=>Mv .not o λp=>A2 p (K (AV.tup [Te,a,(A3 90)]) i) (Ap Ab .add a (A3 1) λq=>ih d b e f q i)) (j d b c)
def MV:JY UE eF:=Ky z5N MW
theorem XQ:KU MV MW:=λ_ _ _ _ _=>rfl
def Ob:IX:=λL R a0 H K=>Hr Cx a0 H λa k=>Em 0 a Ab k λw=>Ap Ab .lss w (A3 1) λg=>dP g k 0 a Ab λx l=>Hl g l (Ap Ab .gtr x (A3 1000000) (CZ l)) λy z=>Ck g Mf y λc=>dP c z 1 a Am λaa m=>Hl c m (Bm Am aa (CZ m)) λab n=>Hl c n (Ap Ab .gtr ab (A3 6) (CZ n)) λac ad=>Ck c Mf ac λd=>dP d ad 1 a Am λae o=>Hl d o (some ((AV.fn (.func GJ) [] []),o)) λaf h=>Hl d h (Ao R Di [ae,af] h (CZ h)) λag ah=>Ck d Mf ag λe=>dP e ah 2 a A0 λai p=>Hl e p (Bm A0 ai (CZ p)) λaj q=>Hl e q (Ap Ab .lss aj (A3 1) (CZ q)) λak al=>Ck e Mf ak λf=>dP f al 2 a A0 λam r=>Hl f r (Bm A0 am (CZ r)) λan s=>Hl f s (Ap Ab .gtr an (A3 40) (CZ s)) λao i=>Ck f Mf ao λap=>A2 ap (K (AV.tup [Te,(A3 (-1)),(A3 90)]) i) (Em 1 a Am i λaq=>R.call Oy [aq] i λar t=>jn (λu j b=>Ar (Lh j AL) λau=>Xh 2 au Am b λav=>Ar (Lh j AL) λaw=>Xh 2 aw Am b λax=>Ar (Bm Am ax AL) λay=>Ar (Ap Ab .sub ay (A3 1) AL) λaz=>OG Am av az A1 b λa1=>Xh 3 u A1 b λa2=>Ar (Xp L9 .neq a1 a2 AL) λa3=>A2 a3 (Xh 2 u A0 b λa4=>Ar (Bm A0 a4 AL) λa5=>K (AV.tup [Te,a5,(A3 90)]) b) (Lh j λa6=>Em 2 a6 Am b λa7=>K (AV.tup [a7,(A3 0),(A3 0)]) b)) λa8=>Em 2 a A0 t λv=>Bm A0 v λa9=>jn (λaA aB aC=>a8 aA aB aC) λaD=>MV L R K aD L a ar v a9 (A3 0) t)
def JA:Jq:=λL R a0 a1 H K=>Lr 245 L R a0 a1 H K _
def tC:IX:=λL R a0 H K=>Iu 246 L R a0 H K _
def wT:Jq:=λL R a0 a1 H K=>Lr 247 L R a0 a1 H K _
def oN:Jq:=λL R a0 a1 H K=>Lr 249 L R a0 a1 H K _
def oO:Jq:=λL R a0 a1 H K=>Lr 250 L R a0 a1 H K _
def wU:Jq:=λL R a0 a1 H K=>Lr 252 L R a0 a1 H K _
def A15:Jq:=λL R a0 a1 H K=>Lr 253 L R a0 a1 H K _
def wS:Jq:=λL R a0 a1 H K=>Lr 254 L R a0 a1 H K _
def tB:IX:=λL R a0 H K=>Iu 255 L R a0 H K _
def Qz:JZ Xt UE:=λL R K d ih b c a=>Em 1 b Am a λe=>Bm Am e λf=>Ap Ab .lss c f λg=>A2 g (Em 1 b Am a λh=>HR Am h c A1 a λi=>Ao R Fy [i] a λj=>Mv .not j λk=>A2 k (Xh 2 b A0 a λl=>Ar (Bm A0 l AL) λm=>Ar (Ap Ab .gtr m (A3 0) AL) λn=>K (AV.tup [HS,n]) a) (Ap Ab .add c (A3 1) λo=>ih b o a)) (d b a)
def Qy:JY Xt UE:=Ky z2N Qz
theorem fF:KU Qy Qz:=λ_ _ _ _ _=>rfl
def So:IX:=λL R a0 H K=>Hr Cx a0 H λm n=>jn (λc d=>Xh 0 c Ab d λo=>Ar (Ao R D3 [o,(A3 1),(A3 1000000)] d AL) λa=>Dk a d (Ar (CY 1 c AL) (CZ d)) λp e=>Dk a e (Ar (AD Am p e AL) (CZ e)) λq h=>Dk a h (Ar (Bm Am q AL) (CZ h)) λr i=>Dk a i (Ar (Ap Ab .leq r (A3 6) AL) (CZ i)) λs j=>Ar (Ck a s HS AL) λb=>Dk b j (Ar (CY 2 c AL) (CZ j)) λt f=>Dk b f (Ar (AD A0 t f AL) (CZ f)) λu k=>Dk b k (Ar (Bm A0 u AL) (CZ k)) λv g=>Dk b g (Ar (Ao R D3 [v,(A3 1),(A3 40)] g AL) (CZ g)) λw l=>Ar (Ck b w HS AL) λx=>Xh 2 c A0 l λy=>Ar (Bm A0 y AL) λz=>Ar (Ap Ab .gtr z (A3 0) AL) λaa=>K (AV.tup [x,aa]) l) λab=>jn (λac ad=>ab ac ad) λae=>Qy L R K ae L m (A3 0) n
def oV:IX:=λL R a0 H K=>Iu 262 L R a0 H K _
def gD:Jq:=λL R a0 a1 H K=>Lr 263 L R a0 a1 H K _
end
section
attribute [local irreducible] D5 Ar A2 Bz E5 KD xL YE Go.Abs.Ap Hr GM Ca uN Jc A1S ZE Xp Rs Go.Abs.C9 CY B1p Ds iO AD Bm Zi iK YC eMM LC Mm eMk YB A1J WN A1I xK C8 E4 A1E A7i A3X Go.Abs.Mv gdV jn Ws LW Lh Ra mW Ck rdK WY nQ Bc Ao J4 undef UInt8.ofNat
def xA:Jq:=λL R a0 a1 H K=>Lr 264 L R a0 a1 H K _
def xB:Jq:=λL R a0 a1 H K=>Lr 265 L R a0 a1 H K _
def E2:JZ Ru QV:=λL R K g ih c d e a b=>Ap Ab .lss a e λh=>A2 h (HR AB c a BU b λi=>Ct (E L) R d [i] b λj f=>A2 j (K a f) (Ap Ab .add a (A3 1) λk=>ih c d e k f)) (g b)
def E1:JY Ru QV:=Ky vK E2
theorem Kg:KU E1 E2:=λ_ _ _ _ _=>rfl
def EB:Jq:=λL R a0 a1 H K=>jn (λa=>K (A3 (-1)) a) λb=>Bm AB a0 λc=>jn (λd=>b d) λe=>E1 L R K e L a0 a1 c (A3 0) H
def Io:IX:=λL R a0 H K=>Iu 269 L R a0 H K _
def Gb:IX:=λL R a0 H K=>Iu 270 L R a0 H K _
def ZT(L:Nat)(R:Rt)(K:KV)(ih:UE):UE:=λd a b=>AD Gy a b λh=>Ap Gy .lss h (AV.v (.int .u64 128)) λe=>AD Gy a b λi=>Ap Gy .and i (AV.v (.int .u64 127)) λj=>Jc Gy Bl j λk=>Ct (E L) R d [k,e] b λl f=>Mv .not l λg=>Hl g f (some (e,f)) λm c=>Ck g Mf m λn=>A2 n (K (AV.tup []) c) (AD Gy a c λo=>Ap Gy .shr o (AV.v (.int .u64 7)) λp=>E4 Gy a p c λq=>ih d a q)
def ZS(L:Nat)(R:Rt)(K:KV)(n:Nat):UE:=lpN z2N (ZT L R K) n
def fV:Jq:=λL R a0 a1 H K=>ZS L R K L a0 a1 H
def KN:IX:=λL R a0 H K=>Iu 277 L R a0 H K _
def Ed:Jq:=λL R a0 a1 H K=>Lr 278 L R a0 a1 H K _
def NY:IX:=λL R a0 H K=>Iu 279 L R a0 H K _
def Jg:Jq:=λL R a0 a1 H K=>Hr AU a1 H λe b=>Ar (Lh a0 AL) λx=>Ar (CY 0 x AL) λn=>Ar (AD DL n b AL) λf=>Ar (CY 0 e AL) λo=>Ar (AD Ab o b AL) λg=>Ar (Ws .i64 g λy=>Zi Bt true f y b AL) λh=>Ar (C9 h 0 AL) λz=>Ar (C9 h 1 AL) λaa=>D5 (Bz C6 Bt b λv H=>some (v,H)) λi c=>D5 (E4 Bt i z c λH=>some (AV.v undef,H)) λaz p=>Ra (Bc (AD DL n c AL) f) (Ra (Bc (AD Ab o c AL) g) (Ra (Bc (Ws .i64 g λab=>Zi Bt true f ab c AL) h) (Mv .not aa λa=>Hl a p (some (a0,p)) λac j=>Hl a j (AD Bt i j (CZ j)) λad k=>Hl a k (AD AO e k (CZ k)) λae l=>Hl a l (Ao R BR [ac,ad,ae] l (CZ l)) λaf q=>Hl a q (Mv .not af (CZ q)) λag d=>Ck a Mf ag λah=>A2 ah (K HS d) (Em 2 i Aa d λai=>AD AO e d λaj=>Ct (E L) R ai [a0,aj] d λr ak=>C9 r 0 λal=>C9 r 1 λam=>Bz AA A1 ak λs an=>E4 A1 s al an λm=>Ar (Lh a0 AL) λao=>Ar (CY 2 ao AL) λt=>Ar (AD Am t m AL) λu=>Ar (AD A1 s m AL) λap=>D5 (GM AA 20 A1 1 [(0,20,ap)] m λv H=>some (v,H)) λaq w=>D5 (E5 AA 20 A1 Am u aq w λv H=>some (v,H)) λar au=>Ar (Lh a0 AL) λav=>Ar (CY 2 av AL) λaw=>D5 (E4 Am aw ar au λH=>some (AV.v undef,H)) λa2 ax=>Ra (Bc (AD Am t w AL) u) (Ap Ab .eql am (A3 0) λay=>K ay ax)))))
def GS:Jq:=λL R a0 a1 H K=>Lr 283 L R a0 a1 H K _
def Jf:Jq:=λL R a0 a1 H K=>Lr 286 L R a0 a1 H K _
def Gg:Jq:=λL R a0 a1 H K=>Lr 287 L R a0 a1 H K _
def HF:Jq:=λL R a0 a1 H K=>Lr 288 L R a0 a1 H K _
def GR:Jq:=λL R a0 a1 H K=>Lr 289 L R a0 a1 H K _
def I2:Jq:=λL R a0 a1 H K=>Hr AU a1 H λb l=>Bz AA A1 l λc f=>Em 23 b Ab f λm=>Ap Ab .eql m (A3 0) λd=>dP d f 23 b Ab λn g=>Hl d g (Ap Ab .lss n (A3 (-4)) (CZ g)) λo p=>Ck d Mf o λe=>dP e p 23 b Ab λq h=>Hl e h (Ap Ab .gtr q (A3 4) (CZ h)) λr a=>Ck e Mf r λs=>A2 s (Ca A1 [] λt=>E4 A1 c t a λi=>AD A1 c i λu=>K (AV.tup [u,(A3 90)]) i) (Ar (Lh a0 AL) λw=>Xh 2 w Am a λx=>Xh 24 b Ab a λy=>OG Am x y A1 a λz=>Xh 23 b Ab a λaa=>Ar (Ca V0 [(0,1,aa),(1,1,(A3 1))] AL) λab=>Ar (Ao R SO [z,ab] a AL) λj=>Ar (C9 j 0 AL) λac=>Ar (C9 j 1 AL) λad=>D5 (E4 A1 c ac a λH=>some (AV.v undef,H)) λaf k=>AD A1 c k λae=>K (AV.tup [ae,ad]) k)
def K_:IX:=λL R a0 H K=>Iu 292 L R a0 H K _
def fZ:IX:=λL R a0 H K=>Iu 296 L R a0 H K _
def tI:Jq:=λL R a0 a1 H K=>Lr 297 L R a0 a1 H K _
def pU:Operand×Array Tmp×Code×Code:=WY (C3m) 0
def Uj:Jq:=λL R a0 a1 H K=>Lr 298 L R a0 a1 H K _
def wF:Operand×Array Tmp×Code×Code:=WY (C3l) 0
def Xm:Jq:=λL R a0 a1 H K=>Lr 299 L R a0 a1 H K _
def wE:Operand×Array Tmp×Code×Code:=WY (C3k) 0
def Xl:IX:=λL R a0 H K=>Iu 300 L R a0 H K _
def Wi:Jq:=λL R a0 a1 H K=>Lr 303 L R a0 a1 H K _
def wX:Jq:=λL R a0 a1 H K=>Lr 304 L R a0 a1 H K _
def EI:JZ Ru QV:=λL R K g ih c d e a b=>Ap Ab .lss a e λh=>A2 h (HR Ac d a Ak b λi=>Ct (E L) R c [i] b λj f=>Mv .not j λk=>A2 k (K (AV.tup []) f) (Ap Ab .add a (A3 1) λl=>ih c d e l f)) (g b)
def EH:JY Ru QV:=Ky vK EI
theorem KH:KU EH EI:=λ_ _ _ _ _=>rfl
def EU:Jq:=λL R a0 a1 H K=>AD Ac a1 H λa=>Bm Ac a λb=>jn (λc=>K (AV.tup []) c) λd=>EH L R K d L a0 a b (A3 0) H
def E0:JZ Ru QV:=λL R K g ih c d e a b=>Ap Ab .lss a e λh=>A2 h (HR Am c a A1 b λi=>Ct (E L) R d [i] b λj f=>A2 j (K a f) (Ap Ab .add a (A3 1) λk=>ih c d e k f)) (g b)
def Ez:JY Ru QV:=Ky vK E0
theorem Kf:KU Ez E0:=λ_ _ _ _ _=>rfl
def EA:Jq:=λL R a0 a1 H K=>jn (λa=>K (A3 (-1)) a) λb=>Bm Am a0 λc=>jn (λd=>b d) λe=>Ez L R K e L a0 a1 c (A3 0) H
def oU:IX:=λL R a0 H K=>Iu 323 L R a0 H K _
def Mh:IX:=λL R a0 H K=>Iu 325 L R a0 H K _
def Ui:IX:=λL R a0 H K=>Iu 326 L R a0 H K _
def Zz:Jq:=λL R a0 a1 H K=>Lr 327 L R a0 a1 H K _
def Tk:Y3N:=λL R a0 a1 a2 H K=>Ar (AD Aa a1 H AL) λc=>Ar (Ap Ab .add a0 (A3 1) AL) λd=>D5 (Ct (E L) R c [d] H λv H=>some (v,H)) λe a=>Ar (AD Bj a2 a AL) λb=>Ar (Ao R Ut [e,b] a AL) λf=>Ar (Ap Ab .gtr f (A3 0) AL) λg=>Ra (Bc (AD Bj a2 H AL) b) (K g a)
def PG:JZ Xt eF:=λL R K m ih f g h i b j=>Ap Ab .lss b f λc=>Hl c j (some (g,j)) λn k=>Hl c k (Ap Ab .neq n (A3 0) (CZ k)) λo l=>Ck c Mf o λp=>A2 p (Ct (E L) R h [b] l λq d=>Ap Ab .add q g λa=>jn (λr s t=>GM Hd 1 Ab 1 [(0,1,s)] t λu v=>E5 Hd 1 Ab Bj i u v λw x=>Ap Ab .add b (A3 1) λy=>ih f r h w y x) λe=>Ap Ab .lss a (A3 0) λz=>A2 z (Ap Ab .add a (A3 10000) λaa=>e (A3 (-1)) aa d) (Ap Ab .geq a (A3 10000) λab=>A2 ab (Ap Ab .quo a (A3 10000) λac=>Ap Ab .rem a (A3 10000) λad=>e ac ad d) (e (A3 0) a d))) (m i l)
def PF:JY Xt eF:=Ky z5N PG
def Qm:Y3N:=λL R a0 a1 a2 H K=>Ap Ab .add a0 (A3 1) λa=>eMk Hd 1 Ab (A3 0) a H λb c=>jn (λd e=>K d e) λf=>jn (λg h=>f g h) λi=>PF L R K i L a0 a1 a2 b (A3 0) c
def Z5:Jq:=λL R a0 a1 H K=>Lr 333 L R a0 a1 H K _
def Sy:Y3N:=λL R a0 a1 a2 H K=>q3N 334 L R a0 a1 a2 H K _
def oS:Jq:=λL R a0 a1 H K=>Lr 335 L R a0 a1 H K _
def gC:IX:=λL R a0 H K=>Iu 336 L R a0 H K _
def Ki:JZ Ru WV:=λL R K f ih c d a b=>Ap Ab .geq a (A3 0) λg=>A2 g (AD Bj d b λh=>HR Bj h a Ab b λi=>Ct (E L) R c [a,i] b λj e=>Mv .not j λk=>A2 k (K (AV.tup []) e) (Ap Ab .sub a (A3 1) λl=>ih c d l e)) (f b)
def Kh:JY Ru WV:=Ky z3N Ki
def K6:Jq:=λL R a0 a1 H K=>AD Bj a1 H λa=>Bm Bj a λb=>Ap Ab .sub b (A3 1) λc=>jn (λd=>K (AV.tup []) d) λe=>Kh L R K e L a0 a1 c H
def Vb:Y3N:=λL R a0 a1 a2 H K=>q3N 365 L R a0 a1 a2 H K _
def Th:Y3N:=λL R a0 a1 a2 H K=>q3N 368 L R a0 a1 a2 H K _
def Ye:Y4N:=λL R a0 a1 a2 a3 H K=>Lh a0 λb=>Em 0 b F? H λc=>A2 c (K (WX []) H) (Ct (E L) R a1 [a2,a3] H λa d=>C9 a 0 λe=>C9 a 1 λf=>Ap Ab .neq f (A3 0) λg=>Lh a0 λh=>CY 0 h λi=>E4 F? i g d λj=>K e j)
def Sp:Y3N:=λL R a0 a1 a2 H K=>q3N 386 L R a0 a1 a2 H K _
def Pu:Jq:=λL R a0 a1 H K=>Lr 396 L R a0 a1 H K _
end
end Go.Proofs
end
noncomputable section
namespace Go.Abs
open Go.RowKit
section
variable{K:K2}{q:Bool}{aZ bd:Code}{H:Hp}{N e m p r s:Nat}{to:Option (Option Code)}{x:Row}{i t:TI}{α:Type}
def A36:∀(l:List α)(k:Nat)(a:α),k<l.length->splice l k [a]=l.set k a:=by
 intro l
 induction l with
 |nil=>intro k a h;simp at h
 |cons b l ih=>
  intro k a h;cases k with
  |zero=>simp[splice]
  |succ k=>
   have:=ih k a (by simpa using h);simp only[splice,List.length_singleton]at this⊢;simp[this]
def VC(l vs:List α)(h:vs.length=l.length):splice l 0 vs=vs:=by simp[splice,h]
def B3{ty:Nat}{cs:Is}{K:KV}(hz:i.zero=.agg cs):Bz ty i H K=K (.ptr (As H) 0 0) ((As H,.cells true ty cs)::H):=by
 unfold Bz;rw[hz,CK,BW];rfl
def mG{ty:Nat}{v:Value}{K:KV}(h1:AV.one (.v v)=true):Hr ty (.v v) H K=K (.ptr (As H) 0 0) ((As H,.cells true ty [.v v])::H):=by
 unfold Hr;rw[CK,FK,BW];have:(Bw (.v v)).all AV.one=true:=by simp[Bw,h1]
 rw[this];rfl
def C02{ty n:Nat}{cs:Is}{K:KV}:Hr ty (.list n cs) H K=K (.ptr (As H) 0 0) ((As H,.cells true ty [.list n cs])::H):=by
 unfold Hr;rw[CK,FK,BW];rfl
def En{ty:Nat}{cs:Is}{K:KV}(h1:cs.all AV.one=true):Hr ty (.agg cs) H K=K (.ptr (As H) 0 0) ((As H,.cells true ty cs)::H):=by
 unfold Hr;rw[CK,FK,BW];have:(Bw (.agg cs)).all AV.one=true:=h1;rw[this];rfl
def AC{cs:Is}(h:Aj H r=some x):Aj (upd H r (.cells q e cs)) r=some (.cells q e cs):=by
 rw[B8 h];rfl
def Ei{cs:Is}{v:AV}{K:Ru}(c:Aj H s=some (.cells q e cs))(d:p<cs.length)(hz:i.size=1)(hv:Bw v=[v])(h1:AV.one v=true):E4 i (.ptr s p 0) v H K=K (upd H s (.cells q e (cs.set p v))):=by
 have b:E4 i (.ptr s p 0) v H K=I6 H s λx=>fD x λq e cs=>GX v λvs=>G6 vs 0 λn=>ck (Nat.beq n i.size) (ck (N0 vs) (Er (Nat.add p 0) vs cs λa=>Ll H s (.cells q e a) K)):=rfl;rw[b,AX c];show GX v _=_;rw[CK,hv,Cl,hz,FK];have:[v].all AV.one=true:=by simp[h1]
 rw[this];show Er p [v] cs _=_;rw[Iq _ _ _ _ (by simp;omega),A36 _ _ _ d,Dh]
def Ch{cs vs:Is}{K:Ru}(d:Aj H s=some (.cells q e cs))(b:vs.length=cs.length)(hz:i.size=cs.length)(h1:vs.all AV.one=true):E4 i (.ptr s 0 0) (.agg vs) H K=K (upd H s (.cells q e vs)):=by
 have c:E4 i (.ptr s 0 0) (.agg vs) H K=I6 H s λx=>fD x λq e cs=>GX (.agg vs) λvs=>G6 vs 0 λn=>ck (Nat.beq n i.size) (ck (N0 vs) (Er 0 vs cs λa=>Ll H s (.cells q e a) K)):=rfl;rw[c,AX d];show(GX (.agg vs) λvs=>G6 vs 0 λn=>ck (Nat.beq n i.size) (ck (N0 vs) (Er 0 vs cs λa=>Ll H s (.cells q e a) K)))=_;have hc:Bw (.agg vs)=vs:=rfl;rw[CK,hc,Cl,hz,FK,h1,b,Jt,jH];show Er 0 vs cs _=_;rw[Iq _ _ _ _ (by omega),VC _ _ b,Dh]
def Bv{cs:Is}(h:t.d.isAgg=true)(hz:t.size=cs.length)(a:Aj H r=some (.cells q e cs)):AD t (.ptr r 0 0) H K=K (.agg cs):=by
 have:AD t (.ptr r 0 0) H K=I6 H r λx=>J6 x λ_ cs=>@Bool.rec (λ_=>Af) (hdK (Dg 0 cs) K) (Ek t.size (Dg 0 cs) λc=>K (.agg c)) t.d.isAgg:=rfl;rw[this,h,AX a];show Ek t.size (Dg 0 cs) _=_;rw[Cy,pE,hz,JU _ _ _ (by omega),vO]
def AQ{cs:Is}(h:t.d.isAgg=false)(b:Aj H r=some (.cells q e cs))(a:p<cs.length):AD t (.ptr r p 0) H K=K (cs.getD p .dk):=by
 have:AD t (.ptr r p 0) H K=I6 H r λx=>J6 x λ_ cs=>@Bool.rec (λ_=>Af) (hdK (Dg (Nat.add p 0) cs) K) (Ek t.size (Dg (Nat.add p 0) cs) λc=>K (.agg c)) t.d.isAgg:=rfl;rw[this,h,AX b];show hdK (Dg p cs) K=_;rw[Cy,vM a,Vf,K8 a];rfl
def EL{z:Int}(k:Nat)(c:t.d=.array m e 1)(hz:z=k)(h:k<m):Ds t (.ptr s 0 0) (.v (.int .i64 z)) K=K (.ptr s k 0):=by
 subst hz;have f:Ds t (.ptr s 0 0) (.v (.int .i64 (k:Int))) K=iN (k:Int) λn=>ck (Nat.blt n m) (fN (Nat.add 0 (Nat.mul n 1)) λq=>K (.ptr s q 0)):=by
  obtain⟨a,b,d,z⟩:=t;simp only at c;subst c;rfl
 rw[f,Ju,Dy];have h2:Nat.add 0 (Nat.mul k 1)=k:=by show 0+k*1=k;omega
 have g:Nat.blt k m=true:=by rw[Wr];exact h
 rw[h2,g];rfl
def A5O{t j:TI}{cs:Is}{z:Int}(k:Nat)(f:t.d=.array m e 1)(u:j.d.isAgg=false)(hz:z=k)(w:k<m)(hc:m<=cs.length):iO t j (.agg cs) (.v (.int .i64 z)) K=K (cs.getD k .dk):=by
 subst hz;have g:iO t j (.agg cs) (.v (.int .i64 (k:Int))) K=iN (k:Int) λn=>ck (Nat.blt n m) (nI j (Dg (Nat.mul n 1) cs) K):=by
  obtain⟨a,b,d,z⟩:=t;simp only at f;subst f;rfl
 rw[g,Ju];have h2:Nat.mul k 1=k:=pZ k;have h:Nat.blt k m=true:=by rw[Wr];exact w
 have c:k<cs.length:=by omega
 rw[h2,h,Cy,vM c,Vf,K8 c];show nI j (cs[k]::cs.drop (k+1)) K=_;unfold nI;rw[u];rfl
def Ix{r p k:Nat}:Lh (.ptr r p k) K=K (.ptr r p k):=id rfl
theorem OY{R:Rt}{args:Is}{t:Tm}{ps:Array Tmp}{K:KV}(f:Aj H r=some (.loop N t ps aZ bd (some none)))(g:yL N ps.toList=true):
 XA6 R r args H K=rdK R.run N t ps args aZ bd H (λc d=>E7 c r true none d) (λe b=>match e with
  |.normal=>E7 b r false (some none) λa=>K (.v (.bool true)) a
  |.ret=>E7 b r false (some (some .ret)) λa=>K (.v (.bool false)) a
  |.exit id=>E7 b r false (some (some (.exit id))) λa=>K (.v (.bool false)) a
  |.goto l=>E7 b r false (some (some (.goto l))) λa=>K (.v (.bool false)) a
  |_=>none):=by
 unfold XA6;rw[AX f];show ck (yL N ps.toList) _=_;rw[g];rfl
def Ph{t:Tm}{ps:Array Tmp}{K:Ru}(a:Aj H r=some (.loop N t ps aZ bd (some none))):E7 H r true to K=K (upd H r (.loop N t ps aZ bd to)):=by
 unfold E7;rw[AX a];show Ll H r _ K=_;rw[Dh]
def Pg{t:Tm}{ps:Array Tmp}{K:Ru}(a:Aj H r=some (.loop N t ps aZ bd none)):E7 H r false to K=K (upd H r (.loop N t ps aZ bd to)):=by
 unfold E7;rw[AX a];show Ll H r _ K=_;rw[Dh]
def Ff{t:Tm}{ps:Array Tmp}(h:Aj H r=some x):Aj (upd H r (.loop N t ps aZ bd to)) r=some (.loop N t ps aZ bd to):=by
 rw[B8 h];rfl
end
section
variable{a b:AV}{f:Nat}{P:Program}{α:Type}
def BT.allB(c:Nat->α->Bool):BT α->Bool
 |.leaf=>true
 |.node k v l r=>c k v&&(l.allB c&&r.allB c)
def B22{c:Nat->α->Bool}{p:Nat->α->Prop}(h:∀k v,c k v=true->p k v):∀{b:BT α},b.allB c=true->b.All p:=by
 intro b
 induction b with
 |leaf=>intro _;trivial
 |node k v l r d e=>
  intro hb;simp only[BT.allB,K0]at hb;exact⟨h k v hb.1,d hb.2.1,e hb.2.2⟩
def A3r:TD->Bool
 |.slice _ 0=>true
 |.array _ _ 0=>true
 |_=>false
def A4L:AV->AV->Bool
 |.v (.int k n),.v (.int d e)=>decide (k=d)&&decide (n=e)
 |.v (.bool b),.v (.bool c)=>b==c
 |.v (.string s),.v (.string g)=>s.data.toList.isEmpty&&g.data.toList.isEmpty
 |.v (.slice none 0 0),.v (.slice none 0 0)=>true
 |.v (.pointer none),.v (.pointer none)=>true
 |.v (.map none),.v (.map none)=>true
 |.v .nilFunc,.v .nilFunc=>true
 |.v .nilIface,.v .nilIface=>true
 |_,_=>false
def jP:Is->Is->Bool
 |[],[]=>true
 |a::c,b::d=>A4L a b&&jP c d
 |_,_=>false
def zeq:AV->AV->Bool
 |.agg cs,.agg ds=>jP cs ds
 |a,b=>A4L a b
def mQ(h:A4L a b=true):a=b:=by
 unfold A4L at h;split at h<;>simp at h<;>try rfl
 ·rw[h.1,h.2]
 ·rw[h]
 ·rename_i s c;obtain⟨⟨l⟩⟩:=s;obtain⟨⟨d⟩⟩:=c;simp at h;rw[h.1,h.2]
def B! :∀{c d:Is},jP c d=true->c=d:=by
 intro c
 induction c with
 |nil=>intro d h;cases d<;>simp[jP]at h⊢
 |cons a c ih=>
  intro d h;cases d with
  |nil=>simp[jP]at h
  |cons b d=>
   simp only[jP,K0]at h;rw[mQ h.1,ih h.2]
def A68(h:zeq a b=true):a=b:=by
 unfold zeq at h;split at h
 ·rw[B! h]
 ·exact mQ h
def B6S:TD->TD->Bool
 |.int k,.int g=>decide (k=g)
 |.bool,.bool=>true
 |.string,.string=>true
 |.pointer e,.pointer c=>decide (e=c)
 |.slice e n,.slice c h=>decide (e=c)&&decide (n=h)
 |.array m e n,.array j c h=>decide (m=j)&&decide (e=c)&&decide (n=h)
 |.struct i,.struct d=>decide (i=d)
 |.map k e,.map g c=>decide (k=g)&&decide (e=c)
 |.func,.func=>true
 |.iface,.iface=>true
 |.other,.other=>true
 |_,_=>false
def A31{a b:TD}(h:B6S a b=true):a=b:=by
 unfold B6S at h;split at h<;>simp at h<;>try rfl
 ·rw[h]
 ·rw[h]
 ·rw[h.1,h.2]
 ·rw[h.1.1,h.1.2,h.2]
 ·rw[h]
 ·rw[h.1,h.2]
def tiB(P:Program)(t:Nat)(i:TI):Bool:=
 match P.info? t with
 |some x=>match P.underlying t,x.zero with
  |some u,some z=>Nat.beq x.size i.size&&(Nat.beq x.bytes i.bytes&&(B6S (td P u) i.d&&(zeq (sQ z) i.zero&& !A3r i.d)))
  |_,_=>false
 |none=>false
def TiR(P:Program)(t:Nat)(i:TI):Prop:=TOk1 P t i/\A3r i.d=false
def B6R(t:Nat)(i:TI)(h:tiB P t i=true):TiR P t i:=by
 unfold tiB at h;split at h
 ·rename_i x c;split at h
  ·rename_i u z j hz;simp only[K0,Z?]at h;obtain⟨h1,h2,d,e,g⟩:=h;refine⟨⟨?_,?_,?_⟩,g⟩
   ·rw[c];simp[Yo h1,Yo h2]
   ·rw[c];simp[hz,A68 e]
   ·rw[j];simp[A31 d]
  ·cases h
 ·cases h
def FnR(P:Program)(f:Nat)(x:XFn):Prop:=(P.funcs[f]?).map (λfn=>(fn.body,fn.ntmps,fn.results.toList,fn.name== "runtime.NumGoroutine"))=some (some x.c,x.n,x.rs,false)
def FnR.ex{x:XFn}(h:FnR P f x):∃fn,P.funcs[f]?=some fn/\fn.body=some x.c/\fn.ntmps=x.n/\fn.results.toList=x.rs/\(fn.name== "runtime.NumGoroutine")=false:=by
 unfold FnR at h;cases d:P.funcs[f]? with
 |none=>rw[d]at h;simp at h
 |some fn=>
  rw[d]at h;simp only[yN,l0z,Prod.mk.injEq]at h;exact⟨fn,rfl,h.1,h.2.1,h.2.2.1,h.2.2.2⟩
def DrR(E:XE)(_:Nat)(x:XFn):Prop:=SU (sA E ⟨false,x.lv,x.fz,x.n,x.rc⟩) x.c=true
def eqR(P:Program)(t:Nat)(ks:List LK):Prop:=leaves P 6 t=some (true,ks)/\P.eqGuardType P.depth t=false
def glR(_:Nat)(cs:Is):Prop:=cs.all isV=true
def C2d(P:Program)(l:Lie):Prop:=liesAt P P.depth l.1 (l.2.1/P.cellsOf l.1) l.2.2.1 l.2.2.2 1=true/\(P.info? l.2.2.2).isSome=true
def C0W{E:XE}(d:E.ty.All (TiR P))(m:E.T=E.ty.get)(c:P.follows .mixedOrders=true)(k:E.gl.All glR)(y:E.ft.All (FnR P))(w:E.ft.All (DrR E))(he:E.eqt.All (eqR P))(A:∀l∈E.lie,C2d P l)(B:P.underlying E.up=some .unsafePointer)(hn:∀f,E.ne f=true->jG P f):XE.Ok sA E P where
 ty:=λt i h=>(d.get (by rw[m]at h;exact h)).1
 pos:=λt i e p h j q=>by
  have:=(d.get (by rw[m]at h;exact h)).2;subst q;rcases j with j|⟨n,j⟩<;>(rw[j]at this;simp[A3r]at this)
 mix:=c
 gl:=λg cs h=>k.get h
 fn:=λf x h=>by
  obtain⟨fn,h1,h2,r,s,v⟩:=(y.get h).ex;exact⟨fn,h1,h2,r,s,v,w.get h⟩
 eq:=λt ks h=>⟨(he.get h).1,(he.get h).2⟩
 lie:=λe n o u h=>A _ h
 up:=λ_=>B
 ne:=hn
def O_{fn:Func}(g:P.funcs[f]?=some fn)(d:(fn.name== "runtime.NumGoroutine")=false)(hb:fn.body.isNone=true)(hn:Extern.findNext fn=none)(he:Extern.find fn=some Extern.AbiNoEscape.same):jG P f:=by
 intro x w;have:Extern.AbiNoEscape.same #[x]=pure x:=rfl;have c:¬fn.name= "runtime.NumGoroutine" :=by simpa using d
 have e:fn.body=none:=by simpa using hb
 simp[callFunc,g,c,e,hn,he,mark,this];rfl
end
end Go.Abs
end
