import Derived.KernelRfl
import Derived.Test.YthffkeagibaidaaGreatDoorP05
set_option linter.all false
set_option maxHeartbeats 0
noncomputable section
namespace Go.Proofs
open Go.Abs
set_option maxRecDepth 100000
section
attribute [local irreducible] DF Ai A1 Bc DJ qT fE Qa Go.Abs.Al HT F4 Ch A0j EE zD lV Ts Yr Go.Abs.Cg CC lT Cy Yp A9 Bi VU zA qK C! KR VT eMk Yk yT lO yS oM GF DD yP A2T A01 Go.Abs.Nh gdV jn oJ Nt Mv Qm ZV B0 rdK Up dO AN Ak Sk undef UInt8.ofNat
def JM:IP fK uL:=λL R K t ih i c e u j k l v w x y f d b=>Bi AG c λz=>Al Ab .lss d z λaa=>A1 aa (jn (λab ac=>Al Ab .add d (Aq 1) λad=>ih i c e u j k l v w x y ab ad ac) λae=>jn (λaf ag=>ae af ag) λm=>Ai (Cy AG c d A2) λah=>Sb 1 ah Ab b λai=>Sb 1 e Ab b λaj=>Ai (Al Ab .eql ai aj A2) λa=>B3 a b (some (c,b)) λak n=>B3 a n (some (d,n)) λal o=>B3 a o (Ai (Cy AG ak al A2) (BE o)) λam p=>B3 a p (Ai (CC 2 am A2) (BE p)) λan g=>B3 a g (Ai (A9 Ab an g A2) (BE g)) λao q=>B3 a q (Ai (CC 2 e A2) (BE q)) λap h=>B3 a h (Ai (A9 Ab ap h A2) (BE h)) λaq r=>B3 a r (Ai (Al Ab .eql ao aq A2) (BE r)) λar s=>Ai (B0 a ar EV A2) λau=>A1 au (Al Ab .add f (Aq 1) λav=>m av s) (m f s)) (t i j k l f b)
def JJ:IN fK uL:=Ja B1e JM
theorem TR:KU JJ JM:=λ_ _ _ _ _=>rfl
def JK:IP uL uL:=λL R K t ih h i j k b l m n d a c o p e=>Bi B5 b λu=>Al Ab .lss c u λv=>A1 v (EU a e (some (b,e)) λw q=>EU a q (some (c,q)) λx r=>EU a r (Ai (Cy B5 w x A2) (BE r)) λy f=>EU a f (Ai (A9 AS y f A2) (BE f)) λz g=>EU a g (Ai (A9 AS d g A2) (BE g)) λaa s=>EU a s (Ai (Ts Ng .eql z aa A2) (BE s)) λab ac=>Ai (B0 a JR ab A2) λad=>Al Ab .add c (Aq 1) λae=>ih h i j k b l m n d ad ae o p ac) (t h i j k b l m n d a c o p e)
def HD:IN uL uL:=Ja B1e JK
theorem TP:KU HD JK:=λ_ _ _ _ _=>rfl
def JL:IP uM uL:=λL R K aC ih v w x y z e aa d aD aE aF aG aH j=>Bi B5 e λaI=>Al Ab .lss d aI λaJ=>A1 aJ (GI B5 e d AS j λaK=>Bc Ct AS j λf aL=>DD AS f aK aL λi=>Ai (Cy AS f (Aq 0) A2) λaM=>Ai (A9 Ag aM i A2) λaN=>Ai (Cy AS f (Aq 1) A2) λaO=>Ai (A9 Ag aO i A2) λaP=>Ai (Al Ag .geq aN aP A2) λg=>EU g i (some (d,i)) λaQ ab=>EU g ab (Ai (Al Ab .gtr aQ (Aq 0) A2) (BE ab)) λaR ac=>EU g ac (some (aR,ac)) λa ad=>B3 a ad (some (e,ad)) λaS ae=>B3 a ae (some (d,ae)) λaT af=>B3 a af (Ai (Al Ab .sub aT (Aq 1) A2) (BE af)) λaU ag=>B3 a ag (Ai (Cy B5 aS aU A2) (BE ag)) λaV ah=>B3 a ah (Ai (Cy AS aV (Aq 0) A2) (BE ah)) λaW k=>B3 a k (Ai (A9 Ag aW k A2) (BE k)) λaX ai=>B3 a ai (Ai (Cy AS f (Aq 0) A2) (BE ai)) λaY l=>B3 a l (Ai (A9 Ag aY l A2) (BE l)) λaZ aj=>B3 a aj (Ai (Al Ag .gtr aX aZ A2) (BE aj)) λba ak=>B3 a ak (some (ba,ak)) λb al=>EU b al (some (e,al)) λbb am=>EU b am (some (d,am)) λbc an=>EU b an (Ai (Al Ab .sub bc (Aq 1) A2) (BE an)) λbd ao=>EU b ao (Ai (Cy B5 bb bd A2) (BE ao)) λbe ap=>EU b ap (Ai (Cy AS be (Aq 0) A2) (BE ap)) λbf m=>EU b m (Ai (A9 Ag bf m A2) (BE m)) λbg aq=>EU b aq (Ai (Cy AS f (Aq 0) A2) (BE aq)) λbh n=>EU b n (Ai (A9 Ag bh n A2) (BE n)) λbi ar=>EU b ar (Ai (Al Ag .eql bg bi A2) (BE ar)) λbj au=>EU b au (some (bj,au)) λc av=>B3 c av (some (e,av)) λbk aw=>B3 c aw (some (d,aw)) λbl ax=>B3 c ax (Ai (Al Ab .sub bl (Aq 1) A2) (BE ax)) λbm ay=>B3 c ay (Ai (Cy B5 bk bm A2) (BE ay)) λbn az=>B3 c az (Ai (Cy AS bn (Aq 1) A2) (BE az)) λbo o=>B3 c o (Ai (A9 Ag bo o A2) (BE o)) λbp a0=>B3 c a0 (Ai (Cy AS f (Aq 1) A2) (BE a0)) λbq p=>B3 c p (Ai (A9 Ag bq p A2) (BE p)) λbr a1=>B3 c a1 (Ai (Al Ag .geq bp br A2) (BE a1)) λbs a2=>EU b a2 (Ai (B0 c bs EV A2) (BE a2)) λbt a3=>B3 a a3 (Ai (B0 b JR bt A2) (BE a3)) λbu a4=>EU g a4 (Ai (B0 a bu EV A2) (BE a4)) λbv a5=>Ai (B0 g JR bv A2) λbw=>A1 bw (K EV a5) (jn (λbx bz b0 q b1 b2 a6 b3 r s b4 b5 b6 a7=>jn (λb7 t=>Cy AS r (Aq 0) λb8=>A9 Ag b8 t λb9=>Al Ag .eql b9 q λh=>EU h t (Cy AS r (Aq 1) (BE t)) λbA u=>EU h u (A9 Ag bA u (BE u)) λbB a8=>EU h a8 (some (q,a8)) λbC a9=>EU h a9 (Al Ag .eql bB bC (BE a9)) λbD aA=>B0 h JR bD λbE=>Al Sn .eql s bE λbF=>A1 bF (K EV aA) (Al Ab .add b3 (Aq 1) λbG=>ih bx bz b0 q b1 b2 b7 bG r s b4 b5 b6 aA)) λaB=>Nh .not s λbH=>A1 bH (Al Ab .add a6 (Aq 1) λbI=>aB bI a7) (aB a6 a7)) λbJ=>jn (λbK bL bM bN bO bP bQ bR bS bT bU bV bW bX=>bJ bK bL bM bN bO bP bQ bR bS bT bU bV bW bX) λbY=>HD L R K bY L v w x y z e aa d f EV (Aq 0) aG aH a5)) (aC v w x y z e aa d aD aE aF j)
def JI:IN uM uL:=Ja B1e JL
theorem TQ:KU JI JL:=λ_ _ _ _ _=>rfl
def KC:Y3N:=λL R a0 a1 a2 H K=>Ak R Tn [] H λd=>Ak R Tl [a0] H λa=>Bi AG a λab=>Al Ab .eql ab (Aq 0) λac=>A1 ac (B3 d H (some (a,H)) λad g=>B3 d g (Ak R Ew [ad] g (BE g)) λae i=>B3 d i (Bi B5 ae (BE i)) λaf j=>B3 d j (Al Ab .eql af (Aq 0) (BE j)) λag ah=>B0 d ag EV λai=>K ai ah) (Bi AG a λaj=>Ak R Ov [a1,aj] H λak=>GI AG a ak Ac H λal=>Bc Ae Ac H λe am=>DD Ac e al am λk=>Ak R Ov [a2,(Aq 100001)] k λan=>CC 5 e λao=>DD Ab ao an k λb=>A9 Ac e b λap=>Ak R HP [ap] b λl=>Ak R Jm [a] b λaq=>Ak R Ew [a] b λar=>Ak R To [aq,l] b λau=>A1 au (K d b) (DF (F4 Ae 68 Ac 0 [] b λv H=>some (v,H)) λav m=>DF (DJ Ae 68 Ac AG av a m λv H=>some (v,H)) λaw n=>Ai (A9 Ac e n A2) λh=>Ai (Qa 68 Ac 1 [(0,68,h)] A2) λax=>DF (DJ Ae 68 Ac AG aw ax n λv H=>some (v,H)) λay o=>Ai (Ak R Ew [ay] o A2) λaz=>Qm (AN (A9 Ac e b A2) h) (Qm (AN (A9 Ac e m A2) h) (jn (λa3 a4 a5 a6 a7 a8 a9 aA aB aC aD aE=>jn (λf aF aG aH p q=>B3 f q (some (aH,q)) λaI r=>B3 f r (some (p,r)) λaJ s=>B3 f s (Al Ab .eql aI aJ (BE s)) λaK t=>B0 f aK EV λc=>B3 c t (some (aG,t)) λaL u=>B3 c u (Bi B5 aL (BE u)) λaM w=>B3 c w (some (aF,w)) λaN x=>B3 c x (Bi B5 aN (BE x)) λaO y=>B3 c y (some (p,y)) λaP z=>B3 c z (Al Ab .add aO aP (BE z)) λaQ aa=>B3 c aa (Al Ab .eql aM aQ (BE aa)) λaR aS=>B0 c aR EV λaT=>K aT aS) λaU=>jn (λaV aW aX aY aZ ba=>aU aV aW aX aY aZ ba) λbb=>JJ L R K bb L a3 a4 a5 a6 a7 a8 a9 aA aB aC aD (Aq 0) (Aq 0) aE) λbc=>jn (λbd be bf bg bh bi bj bk bl bm bn bo=>bc bd be bf bg bh bi bj bk bl bm bn bo) λbp=>JI L R K bp L d a e l ar az (Aq 0) (Aq 0) AV.dk AV.dk AV.dk AV.dk AV.dk o))))
def SS:Y0N:=λL R H K=>Ak R DI [(Aq 1)] H λbp=>Bc Ae Ac H λj bq=>DD Ac j bp bq λay=>Ak R DI [(Aq 2)] ay λbr=>Bc Ae Ac ay λq bs=>DD Ac q br bs λe=>A9 Ac j e λbt=>A9 Ac q e λbu=>Qa 68 Ac 2 [(0,68,bt),(68,68,bu)] λbv=>Ak R Jm [bv] e λm=>Ai (Cy Ad m (Aq 0) A2) λbw=>Ai (A9 Ag bw e A2) λbx=>Ai (Cy Ad m (Aq 1) A2) λbz=>Ai (A9 Ag bz e A2) λb0=>Ai (C! true bx b0 A2) λaz=>Ai (Cy Ad m (Aq 0) A2) λb1=>Ai (A9 Ag b1 e A2) λb2=>Ai (Cy Ad m (Aq 1) A2) λb3=>Ai (A9 Ag b3 e A2) λb4=>Ai (C! false b2 b4 A2) λa0=>Ak R EG [(Aq 3),m] e λb5=>Bc Ae Ac e λn b6=>DD Ac n b5 b6 λo=>Ak R F2 [(Aq 77)] o λu=>A9 Ac n o λb7=>Ak R Gw [b7] o λb8=>Qa 1 Ag 2 [(0,1,b8),(1,1,u)] λb9=>Ak R EG [(Aq 4),b9] o λbA=>Bc Ae Ac o λv bB=>DD Ac v bA bB λa1=>Ak R DI [(Aq 2)] a1 λbC=>Bc Ae Ac a1 λw bD=>DD Ac w bC bD λbE=>CC 5 w λbF=>DD Ab bF (Aq 9) bE λa=>A9 Ac v a λbG=>A9 Ac n a λbH=>A9 Ac q a λbI=>A9 Ac j a λbJ=>Qa 68 Ac 4 [(0,68,bG),(68,68,bH),(136,68,bI),(204,68,bJ)] λc=>Ak R Jm [c] a λf=>Ak R Nb [c] a λa2=>Cg a2 0 λbK=>Cg a2 1 λbL=>A9 Ac j a λbM=>A9 Ac q a λbN=>A9 Ac w a λbO=>Qa 68 Ac 3 [(0,68,bM),(68,68,bN),(136,68,bO)] λbP=>Ak R Ew [bP] a λbQ=>Cy Ad f (Aq 1) λbR=>A9 Ag bR a λbS=>Ak R Il [c,bS] a λa3=>Cg a3 0 λbT=>Cg a3 1 λbU=>Bc Ae Ac a λa4 bV=>DD Ac a4 bT bV λa5=>Ak R Il [c,u] a5 λa6=>Cg a6 0 λbW=>Cg a6 1 λbX=>Bc Ae Ac a5 λbY bZ=>DD Ac bY bW bZ λa7=>DV 31 n Ad a7 λca=>Bi Ad ca λcb=>Al Ab .neq cb (Aq 2) λr=>Tg r a7 31 v Ad λcc a8=>EU r a8 (Bi Ad cc (BE a8)) λcd a9=>EU r a9 (Al Ab .neq cd (Aq 2) (BE a9)) λce aA=>B0 r JR ce λs=>EU s aA (some (bQ,aA)) λcf aB=>EU s aB (Bi B5 cf (BE aB)) λcg aC=>EU s aC (Al Ab .neq cg (Aq 1) (BE aC)) λch p=>B0 s JR ch λci=>A1 ci (K EV p) (Ai (Ak R Kt [c] p A2) λcj=>Ai (Qa 1 Ag 1 [(0,1,u)] A2) λck=>Ai (Ak R BV [cj,ck] p A2) λg=>B3 g p (some (c,p)) λcl x=>B3 g x (Ai (Ak R Nc [cl] x A2) (BE x)) λcm aD=>B3 g aD (some (f,aD)) λcn aE=>B3 g aE (Ai (Cy Ad cn (Aq 0) A2) (BE aE)) λco y=>B3 g y (Ai (A9 Ag co y A2) (BE y)) λcp aF=>B3 g aF (Ai (Qa 1 Ag 1 [(0,1,cp)] A2) (BE aF)) λcq z=>B3 g z (Ai (Ak R BV [cm,cq] z A2) (BE z)) λcr aG=>Ai (B0 g cr EV A2) λd=>B3 d aG (some (c,aG)) λcs aH=>B3 d aH (some (f,aH)) λct aI=>B3 d aI (Ai (Cy Ad ct (Aq 1) A2) (BE aI)) λcu aa=>B3 d aa (Ai (A9 Ag cu aa A2) (BE aa)) λcv ab=>B3 d ab (Ai (Ak R ED [cs,cv] ab A2) (BE ab)) λcw aJ=>B3 d aJ (some (az,aJ)) λcx aK=>B3 d aK (some (a0,aK)) λcy aL=>B3 d aL (Ai (Qa 1 Ag 2 [(0,1,cx),(1,1,cy)] A2) (BE aL)) λcz ac=>B3 d ac (Ai (Ak R BV [cw,cz] ac A2) (BE ac)) λc0 aM=>Ai (B0 d c0 EV A2) λh=>B3 h aM (some (c,aM)) λc1 aN=>B3 h aN (some (f,aN)) λc2 aO=>B3 h aO (Ai (Cy Ad c2 (Aq 0) A2) (BE aO)) λc3 ad=>B3 h ad (Ai (A9 Ag c3 ad A2) (BE ad)) λc4 ae=>B3 h ae (Ai (Ak R ED [c1,c4] ae A2) (BE ae)) λc5 aP=>B3 h aP (Ai (Bi Ad c5 A2) (BE aP)) λc6 aQ=>B3 h aQ (Ai (Al Ab .eql c6 (Aq 3) A2) (BE aQ)) λc7 aR=>Ai (B0 h c7 EV A2) λaf=>B3 af aR (some (bL,aR)) λc8 aS=>B3 af aS (Ai (Al Ab .eql c8 (Aq 0) A2) (BE aS)) λc9 aT=>Ai (B0 af c9 EV A2) λb=>B3 b aT (some (bK,aT)) λcA aU=>B3 b aU (some (az,aU)) λcB aV=>B3 b aV (some (a0,aV)) λcC aW=>B3 b aW (some (f,aW)) λcD aX=>B3 b aX (Ai (Cy Ad cD (Aq 1) A2) (BE aX)) λcE ag=>B3 b ag (Ai (A9 Ag cE ag A2) (BE ag)) λcF aY=>B3 b aY (some (f,aY)) λcG aZ=>B3 b aZ (Ai (Cy Ad cG (Aq 0) A2) (BE aZ)) λcH ah=>B3 b ah (Ai (A9 Ag cH ah A2) (BE ah)) λcI ba=>B3 b ba (Ai (Qa 1 Ag 4 [(0,1,cB),(1,1,cC),(2,1,cF),(3,1,cI)] A2) (BE ba)) λcJ ai=>B3 b ai (Ai (Ak R BV [cA,cJ] ai A2) (BE ai)) λcK bb=>Ai (B0 b cK EV A2) λk=>B3 k bb (some (c,bb)) λcL bc=>B3 k bc (some (f,bc)) λcM bd=>B3 k bd (Ai (Cy Ad cM (Aq 1) A2) (BE bd)) λcN aj=>B3 k aj (Ai (A9 Ag cN aj A2) (BE aj)) λcO ak=>B3 k ak (Ai (Ak R XA1 [cL,cO] ak A2) (BE ak)) λcP be=>Ai (B0 k cP EV A2) λi=>B3 i be (some (c,be)) λcQ bf=>B3 i bf (some (f,bf)) λcR bg=>B3 i bg (Ai (Cy Ad cR (Aq 0) A2) (BE bg)) λcS al=>B3 i al (Ai (A9 Ag cS al A2) (BE al)) λcT am=>B3 i am (Ai (Ak R XA1 [cQ,cT] am A2) (BE am)) λcU bh=>B3 i bh (Ai (Nh .not cU A2) (BE bh)) λcV bi=>Ai (B0 i cV EV A2) λan=>B3 an bi (some (c,bi)) λcW ao=>B3 an ao (Ai (Ak R Hr [cW] ao A2) (BE ao)) λcX ap=>Ai (B0 an cX EV A2) λl=>B3 l ap (Ai (A9 Ac j ap A2) (BE ap)) λcY aq=>B3 l aq (Ai (A9 Ac j aq A2) (BE aq)) λcZ bj=>B3 l bj (Ai (Qa 68 Ac 2 [(0,68,cY),(68,68,cZ)] A2) (BE bj)) λda ar=>B3 l ar (Ai (Ak R Hr [da] ar A2) (BE ar)) λdb bk=>B3 l bk (Ai (Nh .not db A2) (BE bk)) λdc bl=>Ai (B0 l dc EV A2) λbm=>B3 bm bl (some (bU,bl)) λdd au=>Ai (B0 bm dd EV A2) λt=>B3 t au (Ai (A9 Ac a4 au A2) (BE au)) λde av=>B3 t av (Ai (A9 Ac n av A2) (BE av)) λdf aw=>B3 t aw (Ai (Ak R KH [de,df] aw A2) (BE aw)) λdg bn=>Ai (B0 t dg EV A2) λax=>B3 ax bn (some (bX,bn)) λdh bo=>B3 ax bo (Ai (Nh .not dh A2) (BE bo)) λdi dj=>Ai (B0 ax di EV A2) λdk=>K dk dj)
def QA:IP oO oO:=λL R K p ih g h b i e j f c k=>Al Ab .lss c (Aq 3) λd=>B3 d k (some (b,k)) λq l=>B3 d l (Bi Ad q (BE l)) λr m=>B3 d m (Al Ab .gtr r (Aq 0) (BE m)) λs a=>B0 d s EV λt=>A1 t (jn (λu v=>Al Ab .add c (Aq 1) λw=>ih g h b i e j u w v) λx=>jn (λy z=>x y z) λn=>Cy BD e (Aq 6) λaa=>A9 Ab aa a λab=>Al Ab .mul (Aq 4) c λac=>Al Ab .shr ab ac λad=>Ak R J7 [ad,(Aq 16)] a λo=>Al Ab .lss o (Aq 14) λae=>A1 ae (Bi Ad b λaf=>Al Ab .rem o af λag=>GI Ad b ag Ag a λah=>F4 A0 1 Ag 1 [(0,1,ah)] a λai aj=>DJ A0 1 Ag Ad f ai aj λak al=>n ak al) (n f a)) (p g h b i e j f c a)
def Q8:IN oO oO:=Ja z8N QA
theorem dQ:KU Q8 QA:=λ_ _ _ _ _=>rfl
def QB:IP V8 oO:=λL R K ah ih g t ai d bN bO bP bQ u=>Bi JU g λaj=>Al Ab .lss d aj λh=>B3 h u (some (d,u)) λak v=>B3 h v (Al Ab .lss ak (Aq 8) (BE v)) λal i=>B0 h al EV λam=>A1 am (jn (λan ao ap aq ar au av aw ax=>Al Ab .add aq (Aq 1) λay=>ih an ao ap ay ar au av aw ax) λaz=>jn (λa0 a1 a2 a3 a4 a5 a6 a7 a8=>az a0 a1 a2 a3 a4 a5 a6 a7 a8) λw=>GI JU g d BD i λa9=>Bc Vp BD i λf aA=>DD BD f a9 aA λj=>Cy BD f (Aq 0) λaB=>A9 Ab aB j λaC=>jn (λaD aE=>jn (λx y k z a l m aa b=>Cy BD a (Aq 1) λaF=>A9 Ab aF b λaG=>Cy BD a (Aq 2) λaH=>A9 Ab aH b λaI=>Cy BD a (Aq 3) λaJ=>A9 Ab aJ b λaK=>Cy BD a (Aq 4) λaL=>A9 Ab aL b λaM=>Cy BD a (Aq 5) λaN=>A9 Ab aN b λaO=>Ch Be [(0,1,l),(1,1,aG),(2,1,aI),(3,1,aK),(4,1,aM),(5,1,aO)] λaP=>Cy BD a (Aq 1) λaQ=>A9 Ab aQ b λaR=>Cy BD a (Aq 2) λaS=>A9 Ab aS b λaT=>Cy BD a (Aq 3) λaU=>A9 Ab aU b λaV=>Cy BD a (Aq 4) λaW=>A9 Ab aW b λaX=>Cy BD a (Aq 5) λaY=>A9 Ab aY b λaZ=>Cy BD a (Aq 6) λba=>A9 Ab ba b λbb=>Ch Be [(0,1,aR),(1,1,aT),(2,1,aV),(3,1,aX),(4,1,aZ),(5,1,bb)] λbc=>Cy BD a (Aq 3) λbd=>A9 Ab bd b λbe=>Cy BD a (Aq 4) λbf=>A9 Ab bf b λbg=>Cy BD a (Aq 5) λbh=>A9 Ab bh b λbi=>Cy BD a (Aq 6) λbj=>A9 Ab bj b λbk=>Ch BZ [(0,1,be),(1,1,bg),(2,1,bi),(3,1,bk)] λbl=>F4 FB 4 BZ 1 [(0,4,bl)] b λbm bn=>R.call LC [aP,bc,bm,m] bn λbo bp=>Bc Ae Ac bp λn bq=>DD Ac n bo bq λe=>A9 Ac n e λbr=>Ak R Gw [br] e λo=>Ak R Ny [k,o] e λab=>Cg ab 0 λbs=>Cg ab 1 λbR=>Al Ag .neq o (Rw []) λp=>B3 p e (some (bs,e)) λbt ac=>B3 p ac (Nh .not bt (BE ac)) λbu q=>B0 p bu EV λbv=>A1 bv (A9 Ac n q λbw=>F4 Ae 68 Ac 1 [(0,68,bw)] q λbx bz=>DJ Ae 68 Ac AG y bx bz λb0 b1=>F4 A0 1 Ag 1 [(0,1,o)] b1 λb2 b3=>DJ A0 1 Ag Ad k b2 b3 λb4 b5=>w x b0 b4 z a l m aa b5) (w x y k z a l m aa q)) λb6=>jn (λb7 b8 b9 bA bB bC bD bE bF=>b6 b7 b8 b9 bA bB bC bD bE bF) λbG=>Q8 L R K bG L g t ai d f aD UF (Aq 0) aE) λad=>Al Ab .lss d (Aq 2) λc=>B3 c j (Cy BD f (Aq 0) (BE j)) λbH r=>B3 c r (A9 Ab bH r (BE r)) λbI ae=>B3 c ae (Al Ab .quo bI (Aq 3) (BE ae)) λbJ s=>B3 c s (Ak R J7 [bJ,(Aq 4)] s (BE s)) λbK af=>B3 c af (Al Ab .gtr bK (Aq 0) (BE af)) λbL ag=>B0 c bL EV λbM=>A1 bM (ad (Aq 0) ag) (ad aC ag)) (ah t i)
def Q9:IN V8 oO:=Ja z8N QB
theorem dR:KU Q9 QB:=λ_ _ _ _ _=>rfl
def SE:Hw:=λL R a0 H K=>jn (λa b=>K a b) λc=>jn (λd e=>c d e) λf=>Q9 L R K f L a0 UF UF (Aq 0) AV.dk AV.dk AV.dk AV.dk H
def PH:IP uM uM:=λL R K m ih f g h b i j k l c d a e=>Al Ab .lss a d λn=>A1 n (GI Ad c a Ag e λo=>Ch AS [(0,1,o),(1,1,b)] λp=>F4 Ct 2 AS 1 [(0,2,p)] e λq r=>DJ Ct 2 AS B5 h q r λs t=>Al Ab .add a (Aq 1) λu=>ih f g s b i j k l c d u t) (m f g h b i j k l c d a e)
def PF:IN uM uM:=Ja B5P PH
theorem Zr:KU PF PH:=λ_ _ _ _ _=>rfl
def PI:IP V8 uM:=λL R K q ih b h i aC aD j k c aE aF aG a=>Al Ab .lss c k λr=>A1 r (GI Ad j c Ag a λd=>Nt d λs=>VU Ac false b s a λt=>lT 1 Ab t λu=>Nt d λv=>VU Ac false b v a λw=>lT 2 Ab w λx=>Ch DM [(0,1,u),(1,1,x)] λy=>Bc GN DM a λe z=>DD DM e y z λf=>jn (λaa g ab l m ac ad ae af ag ah n=>A9 DM m n λai=>F4 A0 1 Ag 1 [(0,1,l)] n λaj ak=>X! Nf ai λal=>Ym Ad g al ak λo am=>Cg o 0 λan=>DJ A0 1 Ag Ad an aj am λao ap=>Cg o 1 λaq=>lQ g aq ao ap λar=>Al Ab .add ae (Aq 1) λau=>ih aa g ab l m ac ad au af ag ah ar) λav=>A9 DM e f λaw=>X! Nf aw λax=>VU Ad false h ax f λp=>Bi Ad p λay=>jn (λaz a0 a1 a2 a3 a4 a5 a6 a7 a8 a9 aA=>av az a0 a1 a2 a3 a4 a5 a6 a7 a8 a9 aA) λaB=>PF L R K aB L b h i d e j k c p ay (Aq 0) f) (q i a)
def PG:IN V8 uM:=Ja B5P PI
theorem Zs:KU PG PI:=λ_ _ _ _ _=>rfl
def MY:Hw:=λL R a0 H K=>Ak R Fc [a0] H λa=>Cg a 0 λb=>Cg a 1 λo=>KR Ad H λe f=>jn (λc g=>R.call Cl [c,(AV.fn (.func C7) [] [])] g λp h=>K c h) λi=>R.call HE [b] f λd j=>Bi Ad d λk=>jn (λl m=>i l m) λn=>PG L R K n L b e UF AV.dk AV.dk d k (Aq 0) AV.dk AV.dk AV.dk j
def XA7:I4:=λL R a0 a1 H K=>jn (λb c=>Al Ab .rem b a1 λd=>K d c) λa=>Al Ab .lss a0 (Aq 0) λe=>A1 e (Al Ab .add a0 (Aq 1) λf=>Nh .neg f λg=>a g H) (a a0 H)
def MC:Hw:=λL R a0 H K=>GO 8 L R a0 H K _
def Sv:IP V8 TZ:=λL R K e ih b d c a=>Bi AG b λf=>Al Ab .lss c f λg=>A1 g (GI AG b c Ac a λh=>Ak R Gw [h] a λi=>F4 A0 1 Ag 1 [(0,1,i)] a λj k=>DJ A0 1 Ag Ad d j k λl m=>Al Ab .add c (Aq 1) λn=>ih b l n m) (e d a)
def Su:IN V8 TZ:=Ja z3N Sv
theorem iY:KU Su Sv:=λ_ _ _ _ _=>rfl
def UG:Hw:=λL R a0 H K=>jn (λa b=>K a b) λc=>jn (λd e=>c d e) λf=>Su L R K f L a0 UF (Aq 0) H
def Wx:I4:=λL R a0 a1 H K=>Ak R Ny [a0,a1] H λa=>Cg a 0 λb=>Cg a 1 λc=>K b H
def JF:Hw:=λL R a0 H K=>Bc Ae Ac H λa e=>Al Ab .sub a0 (Aq 1) λf=>Ch Be [(0,1,(Aq 0)),(1,1,(Aq 0)),(2,1,f),(3,1,(Aq 0)),(4,1,(Aq 0)),(5,1,(Aq 0))] λg=>Ch Be [] λh=>R.call LC [g,h,UF,UF] e λi j=>Bc Ae Ac j λb k=>DD Ac b i k λc=>A9 Ac b c λl=>DD Ac a l c λd=>A9 Ac a d λm=>K m d
def JG:I4:=λL R a0 a1 H K=>Bc Ae Ac H λa e=>Bi Ad a1 λf=>Al Ab .sub f (Aq 1) λg=>Al Ab .mul (Aq 9) g λh=>Al Ab .add h a0 λi=>Al Ab .sub i (Aq 1) λj=>Ch Be [(0,1,(Aq 1)),(1,1,(Aq 0)),(2,1,j),(3,1,(Aq 0)),(4,1,(Aq 0)),(5,1,(Aq 0))] λk=>Ch Be [(0,1,(Aq 3)),(1,1,(Aq 3)),(2,1,(Aq 3)),(3,1,(Aq 0)),(4,1,(Aq 0)),(5,1,(Aq 0))] λl=>R.call LC [k,l,UF,a1] e λm n=>Bc Ae Ac n λb o=>DD Ac b m o λc=>A9 Ac b c λp=>DD Ac a p c λd=>A9 Ac a d λq=>K q d
def Po:Hw:=λL R a0 H K=>GO 13 L R a0 H K _
def SJ:Hw:=λL R a0 H K=>GO 14 L R a0 H K _
def Mq:Operand×Array Tmp×Code×Code:=Up (c15) 0
def kV:IP A0C A0C:=λL R K aj ih i j k b l m n f o p q r s t u v w x y z aa ab ac ad ae af ag g h c a=>Al Ab .lss c h λak=>A1 ak (jn (λal am=>Al Ab .add c (Aq 1) λan=>ih i j k b l m n al o p q r s t u v w x y z aa ab ac ad ae af ag g h an am) λao=>jn (λap aq=>ao ap aq) λah=>GI Ad g c Ag a λd=>A9 E0 b a λai=>Nt d λar=>VU Ab false ai ar a λau=>Al Ab .sub au (Aq 1) λav=>Nt d λaw=>VT ai aw av a λe=>A9 E0 b e λax=>Nt d λay=>VU Ab false ax ay e λaz=>Al Ab .eql az (Aq 0) λa0=>A1 a0 (F4 A0 1 Ag 1 [(0,1,d)] e λa1 a2=>DJ A0 1 Ag Ad f a1 a2 λa3 a4=>ah a3 a4) (ah f e)) (aj i j k b l m n f o p q r s t u v w x y z aa ab ac ad ae af ag g h c a)
def kT:IN A0C A0C:=Ja B5O kV
def kW:IP TA A0C:=λL R K j ih k l e m f n o c g p q r s t u v w x y z aa ab ac ad ae af ag b0 b1 b2 d=>Bi Ad c λah=>Al Ab .gtr ah (Aq 0) λai=>A1 ai (jn (λaj ak al am an ao ap aq ar au av aw ax ay az a0 a1 a2 a3 a4 a5 a6 a7 a8 a9 aA aB aC aD aE aF=>ih aj ak al am an ao ap aq ar au av aw ax ay az a0 a1 a2 a3 a4 a5 a6 a7 a8 a9 aA aB aC aD aE aF) λaG=>Ak R Nx [c] d λaH=>Bc A0 Ag d λa aI=>DD Ag a aH aI λaJ=>R.call FT [c,(AV.fn (.func Yg) [] [a])] aJ λaK h=>A9 Ag a h λaL=>F4 A0 1 Ag 1 [(0,1,aL)] h λaM aN=>DJ A0 1 Ag Ad g aM aN λaO b=>A9 Dv f b λaP=>A9 Ag a b λaQ=>Nt aQ λaR=>VU Ad false aP aR b λi=>Bi Ad i λaS=>jn (λaT aU aV aW aX aY aZ ba bb bc bd be bf bg bh bi bj bk bl bm bn bo bp bq br bs bt bu bv bw bx=>aG aT aU aV aW aX aY aZ ba bb bc bd be bf bg bh bi bj bk bl bm bn bo bp bq br bs bt bu bv bw bx) λbz=>kT L R K bz L k l e m f n o aK aO p q r s t u v w x y z aa ab ac ad ae af ag i aS (Aq 0) b) (j e g d)
def kU:IN TA A0C:=Ja B5O kW
def QZ:Hw:=λL R a0 H K=>Ak R Fc [a0] H λh=>Cg h 0 λo=>Cg h 1 λp=>Bc Da Bh H λa q=>DD Bh a o q λi=>Nh .not p λr=>A1 r (K (AV.tup [UF,(Aq 220)]) i) (KR Ab i λs t=>Bc Ml E0 t λb u=>DD E0 b s u λv=>KR Ad v λw x=>Bc HZ Dv x λc y=>DD Dv c w y λf=>jn (λz aa j k ab ac ad ae af ag ah ai aj ak al am an ao ap aq ar au av aw ax ay az a1 l=>A9 Bh j l λa2=>R.call HE [a2] l λa3 a4=>R.call FT [a3,(AV.fn (.func Yh) [] [k])] a4 λa5 a6=>jn (λa7 m d=>Bi Ad m λa8=>A9 Bh a7 d λa9=>qK a9 d λaA=>Al Ab .lss a8 aA λaB=>A1 aB (K (AV.tup [UF,(Aq 220)]) d) (K (AV.tup [m,(Aq 0)]) d)) λaC=>jn (λaD aE aF=>aC aD aE aF) λaG=>kU L R K aG L z aa j k ab ac ad a5 UF ae af ag ah ai aj ak al am an ao ap aq ar au av aw ax ay az a1 a6) λaH=>A9 Bh a f λaI=>Ak R ES [aI] f λe=>jn (λaJ aK aL aM aN aO aP aQ aR aS aT aU aV aW aX aY aZ ba bb bc bd be bf bg bh bi bj bk bl=>aH aJ aK aL aM aN aO aP aQ aR aS aT aU aV aW aX aY aZ ba bb bc bd be bf bg bh bi bj bk bl) λn=>dO R 86 e [(2,UF),(3,(Aq 0)),(4,a),(6,b),(7,c),(8,AV.dk),(9,AV.dk),(10,AV.dk),(11,AV.dk),(25,e),(26,AV.dk),(27,AV.dk),(28,AV.dk),(29,AV.dk),(30,AV.dk),(31,AV.dk),(32,AV.dk),(33,AV.dk),(34,AV.dk),(35,AV.dk),(36,AV.dk),(37,AV.dk),(38,AV.dk),(39,AV.dk),(40,AV.dk),(41,AV.dk),(42,AV.dk),(61,AV.dk),(62,AV.dk),(63,AV.dk)] (Mq).2.1 (Mq).2.2.1 (Mq).2.2.2 f λbm g=>ZV bm (n UF (Aq 0) a b c AV.dk AV.dk e AV.dk AV.dk AV.dk AV.dk AV.dk AV.dk AV.dk AV.dk AV.dk AV.dk AV.dk AV.dk AV.dk AV.dk AV.dk AV.dk AV.dk AV.dk AV.dk AV.dk g) (K (AV.tup [UF,(Aq 0)]) g) (λbn=>@Bool.rec (λ_=>Af) (none) (n UF (Aq 0) a b c AV.dk AV.dk e AV.dk AV.dk AV.dk AV.dk AV.dk AV.dk AV.dk AV.dk AV.dk AV.dk AV.dk AV.dk AV.dk AV.dk AV.dk AV.dk AV.dk AV.dk AV.dk AV.dk g) (Nat.beq bn 0)) (λ_=>none))
def Oo:I4:=λL R a0 a1 H K=>Mt 16 L R a0 a1 H K _
def VF:I4:=λL R a0 a1 H K=>Mt 17 L R a0 a1 H K _
def K1:Operand×Array Tmp×Code×Code:=Up (c18) 0
def NS:Hw:=λL R a0 H K=>Ak R Fc [a0] H λe=>Cg e 0 λi=>Cg e 1 λy=>Bc Da Bh H λb j=>DD Bh b i j λk=>KR DY k λl m=>Bc Um Fk m λa n=>DD Fk a l n λc=>jn (λo f=>A9 Fk o f λp=>R.call KG [p] f λq r=>K q r) λs=>A9 Bh b c λt=>Ak R ES [t] c λg=>jn (λu v=>s u v) λh=>dO R 27 g [(2,UF),(3,b),(5,a),(7,AV.dk),(15,g),(17,AV.dk),(18,AV.dk),(19,AV.dk),(20,AV.dk),(21,AV.dk),(22,AV.dk),(23,AV.dk),(24,AV.dk)] (K1).2.1 (K1).2.2.1 (K1).2.2.2 c λw d=>ZV w (h a d) (K UF d) (λx=>@Bool.rec (λ_=>Af) (none) (h a d) (Nat.beq x 0)) (λ_=>none)
def Gj:Operand×Array Tmp×Code×Code:=Up (c19) 0
def kY:IP oO F9N:=λL R K j ih d e c f a k g h i l=>Yk a l λm b=>Cg m 0 λn=>A1 n (lV a b λo=>Cg o 0 λp=>A9 Fk c b λq=>Ch DY [] λr=>Nt p λs=>VT q s r b λt=>ih d e c f a k g h i t) (j d e c f a g h i b)
def kX:IN oO F9N:=Ja z9N kY
def Ra:Hw:=λL R a0 H K=>Ak R Fc [a0] H λc=>Cg c 0 λd=>Cg c 1 λaq=>KR DY H λl m=>Bc Um Fk m λe n=>DD Fk e l n λo=>jn (λf g a p q r s t h=>jn (λu i=>A9 Fk u i λv=>R.call KG [v] i λw x=>K w x) λy=>Ak R ES [g] h λj=>jn (λz aa=>y z aa) λk=>dO R 32 j [(2,f),(3,g),(5,a),(8,p),(16,q),(25,j),(27,r),(28,s),(29,t)] (Gj).2.1 (Gj).2.2.1 (Gj).2.2.2 h λab b=>ZV ab (k a b) (K f b) (λac=>@Bool.rec (λ_=>Af) (none) (k a b) (Nat.beq ac 2)) (λ_=>none)) λad=>lO d o λae af=>jn (λag ah ai aj ak al am an ao=>ad ag ah ai aj ak al am an ao) λap=>kX L R K ap L UF d e AV.dk ae AV.dk AV.dk AV.dk AV.dk af
def WG:IP V8 TZ:=λL R K o ih e a f b=>Bi Ad f λp=>Al Ab .gtr p (Aq 0) λq=>A1 q (jn (λr s=>ih e a r s) λh=>Cy Ad f (Aq 0) λt=>A9 Ag t b λc=>GF Ad f (some (Aq 1)) none none λi=>Nt c λu=>VU DY true a u b λj=>Cg j 0 λv=>Cg j 1 λw=>Bc iM DY b λx y=>DD DY x v y λk=>Nh .not w λd=>B3 d k (some (e,k)) λz l=>B3 d l (some (c,l)) λaa g=>B3 d g (Ak R TT [z,aa] g (BE g)) λab m=>B0 d ab EV λac=>A1 ac (Ch DY [] λad=>Nt c λae=>VT a ae ad m λn=>Nt c λaf=>VU Ac false e af n λag=>lT 31 Ad ag λah=>DJ A0 1 Ag Ad i ah n λai aj=>h ai aj) (h i m)) (o a b)
def XA9:IN V8 TZ:=Ja z3N WG
def IU:I4:=λL R a0 a1 H K=>Ak R Fc [a0] H λa=>Cg a 0 λb=>Cg a 1 λr=>KR DY H λd c=>Nt a1 λe=>VU Ac false b e c λf=>lT 31 Ad f λg=>R.call Me [g] c λh i=>jn (λj k=>R.call KG [j] k λl m=>K l m) λn=>jn (λo p=>n o p) λq=>XA9 L R K q L b d h i
def MA:I4:=λL R a0 a1 H K=>Ak R Fc [a0] H λb=>Cg b 0 λf=>Cg b 1 λq=>Bc Da Bh H λc g=>DD Bh c f g λh=>KR Sn h λi j=>Bc IR Cq j λd k=>DD Cq d i k λl=>Bc Ia Aa l λa m=>DD Aa a (AV.fn (.func Cc) [] [d,c,a]) m λe=>A9 Aa a e λn=>Dk (E L) R n [a1] e λo p=>K o p
def MX:Hw:=λL R a0 H K=>GO 22 L R a0 H K _
def W8:I4:=λL R a0 a1 H K=>HT Ae a0 H λb a4=>HT Ae a1 a4 λa j=>Ai (A9 Ac b j A2) λa5=>DF (Dk (E L) R (AV.fn (.func LM) [] []) [a5] j λv H=>some (v,H)) λa6 ae=>Ai (A9 Ac a ae A2) λaf=>DF (Dk (E L) R (AV.fn (.func LM) [] []) [af] ae λv H=>some (v,H)) λa7 ag=>Ai (Ts lL .eql a6 a7 A2) λe=>B3 e ag (Ai (CC 6 b A2) (BE ag)) λa8 k=>B3 e k (Ai (A9 Ap a8 k A2) (BE k)) λa9 ah=>B3 e ah (Ai (CC 6 a A2) (BE ah)) λaA l=>B3 e l (Ai (A9 Ap aA l A2) (BE l)) λaB ai=>B3 e ai (Ai (Ts Jq .eql a9 aB A2) (BE ai)) λaC aj=>Ai (B0 e aC EV A2) λf=>B3 f aj (Ai (CC 55 b A2) (BE aj)) λaD m=>B3 f m (Ai (A9 CK aD m A2) (BE m)) λaE ak=>B3 f ak (Ai (CC 55 a A2) (BE ak)) λaF n=>B3 f n (Ai (A9 CK aF n A2) (BE n)) λaG al=>B3 f al (Ai (Ts GW .eql aE aG A2) (BE al)) λaH am=>Ai (B0 f aH EV A2) λg=>B3 g am (Ai (CC 26 b A2) (BE am)) λaI o=>B3 g o (Ai (A9 DK aI o A2) (BE o)) λaJ an=>B3 g an (Ai (CC 26 a A2) (BE an)) λaK p=>B3 g p (Ai (A9 DK aK p A2) (BE p)) λaL q=>B3 g q (Ai (Ak R oL [aJ,aL] q A2) (BE q)) λaM ao=>Ai (B0 g aM EV A2) λh=>B3 h ao (Ai (CC 32 b A2) (BE ao)) λaN r=>B3 h r (Ai (A9 AE aN r A2) (BE r)) λaO ap=>B3 h ap (Ai (CC 32 a A2) (BE ap)) λaP s=>B3 h s (Ai (A9 AE aP s A2) (BE s)) λaQ t=>B3 h t (Ai (Ak R MP [aO,aQ] t A2) (BE t)) λaR aq=>Ai (B0 h aR EV A2) λi=>B3 i aq (Ai (CC 31 b A2) (BE aq)) λaS u=>B3 i u (Ai (A9 Ad aS u A2) (BE u)) λaT ar=>B3 i ar (Ai (CC 31 a A2) (BE ar)) λaU w=>B3 i w (Ai (A9 Ad aU w A2) (BE w)) λaV x=>B3 i x (Ai (Ak R F3 [aT,aV] x A2) (BE x)) λaW au=>Ai (B0 i aW EV A2) λc=>B3 c au (Ai (CC 65 b A2) (BE au)) λaX av=>B3 c av (Ai (CC 1 aX A2) (BE av)) λaY y=>B3 c y (Ai (A9 Ad aY y A2) (BE y)) λaZ aw=>B3 c aw (Ai (CC 65 a A2) (BE aw)) λba ax=>B3 c ax (Ai (CC 1 ba A2) (BE ax)) λbb z=>B3 c z (Ai (A9 Ad bb z A2) (BE z)) λbc aa=>B3 c aa (Ai (Ak R F3 [aZ,bc] aa A2) (BE aa)) λbd ay=>Ai (B0 c bd EV A2) λd=>B3 d ay (Ai (CC 65 b A2) (BE ay)) λbe az=>B3 d az (Ai (CC 2 be A2) (BE az)) λbf ab=>B3 d ab (Ai (A9 Ad bf ab A2) (BE ab)) λbg a2=>B3 d a2 (Ai (CC 65 a A2) (BE a2)) λbh a3=>B3 d a3 (Ai (CC 2 bh A2) (BE a3)) λbi ac=>B3 d ac (Ai (A9 Ad bi ac A2) (BE ac)) λbj ad=>B3 d ad (Ai (Ak R F3 [bg,bj] ad A2) (BE ad)) λbk bl=>Ai (B0 d bk EV A2) λbm=>Qm (AN (A9 Ac a j A2) af) (K bm bl)
def SD:I4:=λL R a0 a1 H K=>jn (λb c=>Al Ab .rem b a1 λd=>K d c) λa=>Al Ab .lss a0 (Aq 0) λe=>A1 e (Al Ab .add a0 (Aq 1) λf=>Nh .neg f λg=>a g H) (a a0 H)
def QG:IP F7N F7N:=λL R K j ih f g h b d e c a=>DV 31 b Ad a λk=>Bi Ad k λl=>Al Ab .lss c l λm=>A1 m (jn (λn o=>Al Ab .add c (Aq 1) λp=>ih f g h b d n p o) λq=>jn (λr s=>q r s) λi=>DV 31 b Ad a λt=>GI Ad t c Ag a λu=>Al Ag .eql u e λv=>A1 v (Al Ab .sub (Aq (-1)) d λw=>Ak R F2 [w] a λx=>i x a) (i e a)) (j f g h b d e c a)
def QE:IN F7N F7N:=Ja z7N QG
theorem dT:KU QE QG:=λ_ _ _ _ _=>rfl
def QH:IP TZ F7N:=λL R K r ih d e j f c aC aD a=>CC 32 f λs=>DV 1 s Am a λt=>Bi Am t λu=>Al Ab .lss c u λv=>A1 v (Cy Be e (Aq 1) λw=>A9 Ab w a λx=>Al Ab .quo x (Aq 3) λy=>Ak R Bs [y,(Aq 1000)] a λz=>Al Ab .add z c λaa=>Ak R F2 [aa] a λab=>jn (λac ad=>jn (λae af ag g ah k ai l=>DV 31 g Ad l λaj=>F4 A0 1 Ag 1 [(0,1,k)] l λak al=>DJ A0 1 Ag Ad aj ak al λam an=>CC 31 g λao=>DD Ad ao am an λap=>Al Ab .add ah (Aq 1) λaq=>ih ae af ag g aq k ai ap) λar=>jn (λau av aw ax ay az a0 a1=>ar au av aw ax ay az a0 a1) λa2=>QE L R K a2 L d e j f c ac (Aq 0) ad) λm=>Bi Ad d λa3=>Al Ab .lss c a3 λb=>B3 b a (some (d,a)) λa4 n=>B3 b n (some (c,n)) λa5 o=>B3 b o (Cy Ad a4 a5 (BE o)) λa6 h=>B3 b h (A9 Ag a6 h (BE h)) λa7 p=>B3 b p (Bi Ag a7 (BE p)) λa8 q=>B3 b q (Al Ab .eql a8 (Aq 32) (BE q)) λa9 i=>B0 b a9 EV λaA=>A1 aA (GI Ad d c Ag i λaB=>m aB i) (m ab i)) (r e j f a)
def QF:IN TZ F7N:=Ja z7N QH
theorem dU:KU QF QH:=λ_ _ _ _ _=>rfl
def SI:Y4N:=λL R a0 a1 a2 a3 H K=>HT GH a0 H λc am=>HT GH a1 am λh an=>Bc Ae Ac an λj a=>Ai (Cy Be c (Aq 0) A2) λs=>Ai (A9 Ab s a A2) λk=>Ai (Ak R Bs [k,(Aq 3)] a A2) λt=>Ai (Al Ab .add (Aq 1) t A2) λao=>Ai (Cy Be c (Aq 1) A2) λu=>Ai (A9 Ab u a A2) λl=>Ai (Ak R Bs [l,(Aq 3)] a A2) λw=>Ai (Al Ab .add (Aq 1) w A2) λap=>Ai (Cy Be c (Aq 2) A2) λx=>Ai (A9 Ab x a A2) λm=>Ai (Ak R Bs [m,(Aq 9)] a A2) λy=>Ai (Al Ab .add (Aq 1) y A2) λaq=>Ai (Cy Be c (Aq 3) A2) λz=>Ai (A9 Ab z a A2) λn=>Ai (Ak R Bs [n,(Aq 4)] a A2) λaa=>Ai (Al Ab .add (Aq 1) aa A2) λar=>Ai (Cy Be c (Aq 4) A2) λab=>Ai (A9 Ab ab a A2) λo=>Ai (Ak R Bs [o,(Aq 50)] a A2) λac=>Ai (Cy Be c (Aq 5) A2) λad=>Ai (A9 Ab ad a A2) λp=>Ai (Ak R Bs [p,(Aq 30)] a A2) λae=>Ai (Ch Ac [(0,1,ao),(1,1,ap),(2,1,aq),(3,1,ar),(4,1,ac),(5,1,ae)] A2) λau=>DF (Bc Ae Ac a λv H=>some (v,H)) λd b=>DF (DD Ac d au b λH=>some (AV.v undef,H)) λbt f=>Qm (AN (A9 Ab s b A2) k) (Qm (AN (Ak R Bs [k,(Aq 3)] b A2) t) (Qm (AN (A9 Ab u b A2) l) (Qm (AN (Ak R Bs [l,(Aq 3)] b A2) w) (Qm (AN (A9 Ab x b A2) m) (Qm (AN (Ak R Bs [m,(Aq 9)] b A2) y) (Qm (AN (A9 Ab z b A2) n) (Qm (AN (Ak R Bs [n,(Aq 4)] b A2) aa) (Qm (AN (A9 Ab ab b A2) o) (Qm (AN (Ak R Bs [o,(Aq 50)] b A2) ac) (Qm (AN (A9 Ab ad b A2) p) (Qm (AN (Ak R Bs [p,(Aq 30)] b A2) ae) (Cy Be c (Aq 3) λav=>A9 Ab av f λaw=>Al Ab .quo aw (Aq 4) λax=>Cy Be c (Aq 4) λay=>A9 Ab ay f λaz=>Al Ab .quo az (Aq 50) λa4=>A9 Be h f λa5=>Ak R Ou [ax,a4,a5] f λa6=>CC 26 d λa7=>DD DK a7 a6 f λq=>Cy Be c (Aq 5) λa8=>A9 Ab a8 q λa9=>Al Ab .quo a9 (Aq 30) λaA=>Ak R E9 [aA] q λaB=>CC 6 d λaC=>DD Ap aC aB q λe=>DV 0 d Ab e λaD=>Al Ab .eql aD (Aq 1) λaE=>A1 aE (A9 Ac d e λaF=>DD Ac j aF e λaf=>A9 Ac j af λaG=>K aG af) (Cy Be h (Aq 0) λaH=>A9 Ab aH e λaI=>Cy Be h (Aq 1) λaJ=>A9 Ab aJ e λaK=>Cy Be h (Aq 2) λaL=>A9 Ab aL e λaM=>Ch OI [(0,1,aI),(1,1,aK),(2,1,aM)] λaN=>Cy Be c (Aq 2) λaO=>A9 Ab aO e λaP=>Al Ab .quo aP (Aq 9) λaQ=>Ak R Ot [aN,aQ,a2,JR] e λaR=>CC 32 d λaS=>DD AE aS aR e λag=>CC 32 d λaT=>DV 3 aT Ap ag λaU=>CC 6 d λaV=>DD Ap aV aU ag λaW=>jn (λah ai i g=>jn (λaj=>A9 Ac i aj λaX=>DD Ac ai aX aj λak=>A9 Ac ai ak λaY=>K aY ak) λal=>DV 0 i Ab g λaZ=>Al Ab .eql aZ (Aq 3) λba=>A1 ba (Cy Be ah (Aq 0) λbb=>A9 Ab bb g λbc=>Al Ab .quo bc (Aq 3) λbd=>Ak R Ij [bd] g λbe=>CC 55 i λbf=>DD CK bf be g λr=>Cy Be ah (Aq 0) λbg=>A9 Ab bg r λbh=>Al Ab .quo bh (Aq 9) λbi=>Ak R Bs [bi,(Aq 3)] r λbj=>Al Ab .add (Aq 1) bj λbk=>CC 64 i λbl=>DD Ab bl bk r λbm=>al bm) (al g)) λbn=>jn (λbo bp bq br=>bn bo bp bq br) λbs=>QF L R K bs L a3 c j d (Aq 0) AV.dk AV.dk aW)))))))))))))
def Sx:IP Ru TZ:=λL R K e ih c d a b=>Bi Ad c λf=>Al Ab .lss a f λg=>A1 g (GI Ad c a Ag b λh=>Al Ag .eql h d λi=>A1 i (K (AV.tup [JR,a]) b) (Al Ab .add a (Aq 1) λj=>ih c d j b)) (e b)
def Sw:IN Ru TZ:=Ja z3N Sx
theorem iZ:KU Sw Sx:=λ_ _ _ _ _=>rfl
def UH:I4:=λL R a0 a1 H K=>jn (λa=>K (AV.tup [EV,(Aq (-1))]) a) λb=>jn (λc=>b c) λd=>Sw L R K d L a0 a1 (Aq 0) H
def Nv:IP TA fK:=λL R K o ih i a j k c d=>Al Ab .lss c k λp=>A1 p (GI AG j c Ac d λq=>Bc Ae Ac d λe r=>DD Ac e q r λb=>A9 Ac e b λs=>Ak R HP [s] b λf=>Nt f λt=>VU Ac true a t b λl=>Cg l 0 λu=>Cg l 1 λg=>Bc Ae Ac b λv w=>DD Ac v u w λm=>EU g m (some (f,m)) λx n=>EU g n (Al Ag .eql x (Rw []) (BE n)) λy h=>B0 g JR y λz=>A1 z (KR Ac h λaa ab=>K (AV.tup [aa,EV]) ab) (A9 Ac e h λac=>Nt f λad=>VT a ad ac h λae=>Al Ab .add c (Aq 1) λaf=>ih i a j k af ae)) (o i a d)
def Qq:IN TA fK:=Ja z5N Nv
theorem Rg:KU Qq Nv:=λ_ _ _ _ _=>rfl
def XA8:Hw:=λL R a0 H K=>KR Ac H λb c=>jn (λd e a=>Bi AG d λf=>Al Ab .gtr f (Aq 64) λg=>A1 g (KR Ac a λh i=>K (AV.tup [h,EV]) i) (K (AV.tup [e,JR]) a)) λj=>Bi AG a0 λk=>jn (λl m n=>j l m n) λo=>Qq L R K o L a0 b a0 k (Aq 0) c
def JH:Hw:=λL R a0 H K=>Ak R Cw [a0] H λa=>R.call Gc [a] H λb c=>K b c
def JQ:IP TA fK:=λL R K j ih e a f g b c=>Al Ab .lss b g λk=>A1 k (GI A8 f b BC c λl=>Bc AM BC c λd m=>DD BC d l m λh=>DV 0 d Ab h λn=>F4 Fh 1 Ab 1 [(0,1,n)] h λo p=>R.call Bt [a,o] p λv i=>DV 1 d Au i λq=>F4 AU 2 Au 1 [(0,2,q)] i λr s=>R.call Cb [a,r] s λw t=>Al Ab .add b (Aq 1) λu=>ih e a f g u t) (j e a c)
def JP:IN TA fK:=Ja z5N JQ
theorem TX:KU JP JQ:=λ_ _ _ _ _=>rfl
def KD:Hw:=λL R a0 H K=>HT Ae a0 H λa e=>A9 Ac a e λab=>Ak R CZ [ab] e λac=>Nh .not ac λad=>A1 ad (K (AV.tup [(Rw []),(Aq 210)]) e) (DV 65 a Nm e λae=>Ak R Wj [ae] e λm=>Cg m 0 λbt=>Cg m 1 λaf=>Al Ab .neq af (Aq 0) λh=>Qg h e 65 a Nm λag j=>B3 h j (Ak R Nz [ag] j (BE j)) λah n=>B3 h n (Nh .not ah (BE n)) λai o=>B0 h ai EV λaj=>A1 aj (K (AV.tup [(Rw []),(Aq 210)]) o) (Bc XA2 I5 o λf d=>DV 0 a Ab d λak=>DV 1 a Ab d λal=>DV 2 a Ab d λam=>DV 3 a Ab d λan=>DV 4 a Ab d λao=>DV 5 a Ab d λap=>F4 Fh 1 Ab 6 [(0,1,ak),(1,1,al),(2,1,am),(3,1,an),(4,1,ao),(5,1,ap)] d λaq ar=>R.call Bt [f,aq] ar λbu k=>DV 6 a Ap k λau=>Ak R GR [au] k λp=>Cg p 0 λav=>Cg p 1 λbv=>F4 A0 1 Ag 1 [(0,1,av)] k λaw ax=>R.call BM [f,aw] ax λbw q=>CC 26 a λay=>DV 0 ay Au q λaz=>F4 AU 2 Au 1 [(0,2,az)] q λa1 a2=>R.call Cb [f,a1] a2 λbx r=>CC 26 a λa3=>DV 2 a3 A8 r λa4=>Bi A8 a4 λa5=>F4 Fh 1 Ab 1 [(0,1,a5)] r λa6 a7=>R.call Bt [f,a6] a7 λbz s=>jn (λb c t=>CC 26 b λa8=>DV 3 a8 Au t λa9=>F4 AU 2 Au 1 [(0,2,a9)] t λaA aB=>R.call Cb [c,aA] aB λb0 u=>DV 31 b Ad u λaC=>Bi Ad aC λaD=>F4 Fh 1 Ab 1 [(0,1,aD)] u λaE aF=>R.call Bt [c,aE] aF λb1 v=>DV 31 b Ad v λaG=>R.call BM [c,aG] v λb2 l=>DV 32 b AE l λaH=>Ak R EC [aH] l λw=>Cg w 0 λaI=>Cg w 1 λb3=>F4 A0 1 Ag 1 [(0,1,aI)] l λaJ aK=>R.call BM [c,aJ] aK λb4 i=>jn (λaL=>CC 0 c λaM=>R.call FI [aM] aL λaN x=>Al Ab .gtr aN (Aq 32768) λaO=>A1 aO (K (AV.tup [(Rw []),(Aq 210)]) x) (CC 0 c λaP=>R.call D1 [aP] x λaQ aR=>K (AV.tup [aQ,(Aq 0)]) aR)) λy=>DV 0 b Ab i λaS=>Al Ab .eql aS (Aq 3) λaT=>A1 aT (CC 55 b λaU=>DV 0 aU Ab i λaV=>F4 Fh 1 Ab 1 [(0,1,aV)] i λaW aX=>R.call Bt [c,aW] aX λb5 g=>CC 55 b λaY=>DV 1 aY Au g λaZ=>CC 55 b λba=>DV 3 ba Au g λbb=>CC 55 b λbc=>DV 5 bc Au g λbd=>CC 55 b λbe=>DV 7 be Au g λbf=>F4 AU 2 Au 4 [(0,2,aZ),(2,2,bb),(4,2,bd),(6,2,bf)] g λbg bh=>R.call Cb [c,bg] bh λb6 z=>DV 64 b Ab z λbi=>F4 Fh 1 Ab 1 [(0,1,bi)] z λbj bk=>R.call Bt [c,bj] bk λb7 bl=>y bl) (y i)) λbm=>CC 26 a λbn=>DV 2 bn A8 s λaa=>Bi A8 aa λbo=>jn (λbp bq br=>bm bp bq br) λbs=>JP L R K bs L a f aa bo (Aq 0) s))
def DZ:Operand×Array Tmp×Code×Code:=Up (c33) 0
def Rr:IP oO F9N:=λL R K j ih b c d e a f k g h i=>Al Ab .geq a (Aq 0) λl=>A1 l (Bi Ag b λm=>Al Ab .mul (Aq 8) m λn=>Al Ab .mul (Aq 8) a λo=>Al Ab .shr n o λp=>EE Ab AB p λq=>F4 AI 1 AB 1 [(0,1,q)] i λr s=>DJ AI 1 AB A5 e r s λt u=>Al Ab .sub a (Aq 1) λv=>ih b c d t v f k g h u) (j b c d e a f g h i)
def Nj:IN oO F9N:=Ja z9N Rr
theorem fG:KU Nj Rr:=λ_ _ _ _ _=>rfl
def Rq:IP oO F9N:=λL R K j ih b c d a k e f g h i=>Bi A5 a λl=>Al Ab .rem l (Aq 64) λm=>Al Ab .neq m (Aq 56) λn=>A1 n (F4 AI 1 AB 1 [(0,1,(AV.v (.int .u8 0)))] i λo p=>DJ AI 1 AB A5 a o p λq r=>ih b c d q k e f g h r) (j b c d a e f g h i)
def Rp:IN oO F9N:=Ja z9N Rq
theorem fF:KU Rp Rq:=λ_ _ _ _ _=>rfl
def SX:Hw:=λL R a0 H K=>Ch AA [(0,1,(AV.v (.int .u32 1779033703))),(1,1,(AV.v (.int .u32 3144134277))),(2,1,(AV.v (.int .u32 1013904242))),(3,1,(AV.v (.int .u32 2773480762))),(4,1,(AV.v (.int .u32 1359893119))),(5,1,(AV.v (.int .u32 2600822924))),(6,1,(AV.v (.int .u32 528734635))),(7,1,(AV.v (.int .u32 1541459225)))] λi=>Bc Bm AA H λd j=>DD AA d i j λk=>yS AI a0 k λl m=>F4 AI 1 AB 1 [(0,1,(AV.v (.int .u8 128)))] m λn o=>DJ AI 1 AB A5 l n o λp q=>jn (λr s t u w x y z aa=>jn (λab e a f ac ad ae af ag=>jn (λah b=>A9 AA ah b λai=>Ak R ET [ai] b λaj=>K aj b) λak=>R.call IW [f,(Aq 64)] ag λg al=>jn (λam an=>ak am an) λh=>dO R 40 g [(0,ab),(2,e),(3,a),(4,f),(5,ac),(6,ad),(34,g),(35,ae),(36,af)] (DZ).2.1 (DZ).2.2.1 (DZ).2.2.2 al λao c=>ZV ao (h a c) (K e c) (λap=>@Bool.rec (λ_=>Af) (none) (h a c) (Nat.beq ap 4)) (λ_=>none)) λaq=>jn (λar au av aw ax ay az a1 a2=>aq ar au av aw ax ay az a1 a2) λa3=>Nj L R K a3 L r s t u (Aq 7) w x y z aa) λa4=>jn (λa5 a6 a7 a8 a9 aA aB aC aD=>a4 a5 a6 a7 a8 a9 aA aB aC aD) λaE=>Rp L R K aE L a0 (Rw []) d p AV.dk AV.dk AV.dk AV.dk AV.dk q
theorem dY(L:Nat)(R:Rt)(c0:AV)(c2:AV)(c3:AV)(c4:AV)(c5:AV)(c6:AV)(D?:AV)(D! :AV)(D':AV)(a0:AV)(P:Hp->Ru->Af)(Q:Exit->Ru)(H:Hp):rdK (λcf=>Qy (E L) R cf) 40 [(0,c0),(2,c2),(3,c3),(4,c4),(5,c5),(6,c6),(34,D?),(35,D!),(36,D')] (DZ).2.1 [a0] (DZ).2.2.1 (DZ).2.2.2 H P Q=P H λa=>R.call Jo [c3,a0] a λc b=>Q .normal b:=by kernel_rfl
def SB:IP V8 fK:=λL R K e ih c f g d a b=>Al Ab .lss a (Aq 8) λh=>A1 h (Mf A3 c a Ah b λi=>Ai (Al Ah .shr i (AV.v (.int .u64 24)) A2) λj=>Ai (EE Ah AB j A2) λk=>Mf A3 c a Ah b λl=>Ai (Al Ah .shr l (AV.v (.int .u64 16)) A2) λm=>Ai (EE Ah AB m A2) λn=>Mf A3 c a Ah b λo=>Ai (Al Ah .shr o (AV.v (.int .u64 8)) A2) λp=>Ai (EE Ah AB p A2) λq=>Mf A3 c a Ah b λr=>Ai (EE Ah AB r A2) λs=>DF (F4 AI 1 AB 4 [(0,1,k),(1,1,n),(2,1,q),(3,1,s)] b λv H=>some (v,H)) λt u=>DF (DJ AI 1 AB A5 d t u λv H=>some (v,H)) λw x=>Al Ab .add a (Aq 1) λy=>ih c f g w y x) (e d b)
def Sz:IN V8 fK:=Ja z5N SB
theorem jB:KU Sz SB:=λ_ _ _ _ _=>rfl
def S0:IP TZ fK:=λL R K e ih d b a f g c=>Bi A5 b λh=>Al Ab .lss a h λi=>A1 i (Al Ab .add a (Aq 64) λj=>GF A5 b (some a) (some j) none λk=>Ak R Rj [d,k] c λl=>Al Ab .add a (Aq 64) λm=>ih l b m f g c) (e d b a c)
def Sy:IN TZ fK:=Ja z5N S0
theorem jA:KU Sy S0:=λ_ _ _ _ _=>rfl
def UL:Hw:=λL R a0 H K=>F4 B9 1 Ah 8 [(0,1,(AV.v (.int .u32 1779033703))),(1,1,(AV.v (.int .u32 3144134277))),(2,1,(AV.v (.int .u32 1013904242))),(3,1,(AV.v (.int .u32 2773480762))),(4,1,(AV.v (.int .u32 1359893119))),(5,1,(AV.v (.int .u32 2600822924))),(6,1,(AV.v (.int .u32 528734635))),(7,1,(AV.v (.int .u32 1541459225)))] H λc a=>Ak R MN [a0] a λd=>jn (λe f g h=>jn (λi b=>fE i b λj=>K j b) λk=>jn (λl m=>k l m) λn=>Sz L R K n L e f g UF (Aq 0) h) λo=>jn (λp q r s=>o p q r s) λt=>Sy L R K t L c d (Aq 0) AV.dk AV.dk a
def Ms:IP V8 TZ:=λL R K f ih b d c a=>Bi Ba b λg=>Al Ab .lss c g λh=>A1 h (GI Ba b c Ab a λi=>Ak R LH [i] a λe=>Cg e 0 λj=>Cg e 1 λm=>Al Ag .add d j λk=>Al Ab .add c (Aq 1) λl=>ih b k l a) (f d a)
def Mr:IN V8 TZ:=Ja z3N Ms
theorem Wt:KU Mr Ms:=λ_ _ _ _ _=>rfl
def NP:Hw:=λL R a0 H K=>jn (λa b=>K a b) λc=>jn (λd e=>c d e) λf=>Mr L R K f L a0 (Rw []) (Aq 0) H
def Oj:Hw:=λL R a0 H K=>GO 36 L R a0 H K _
def TN:Hw:=λL R a0 H K=>GO 37 L R a0 H K _
def TL:I4:=λL R a0 a1 H K=>Mt 38 L R a0 a1 H K _
def Jy:IP TA Sd:=λL R K i ih a e b c d=>Bi Ad a λj=>Al Ab .lss c j λk=>A1 k (jn (λl m=>Al Ab .add c (Aq 1) λn=>ih a e l n m) λo=>jn (λp q=>o p q) λf=>GI Ad a c Ag d λg=>Dk (E L) R e [g] d λr h=>Nh .not r λs=>A1 s (Cy Ad a b λt=>DD Ag t g h λu=>Al Ab .add b (Aq 1) λv=>f v u) (f b h)) (i a b d)
def Jx:IN TA Sd:=Ja rI Jy
def JD:I4:=λL R a0 a1 H K=>Ak R DP [a0,a1] H λa=>Al Ab .eql a (Aq (-1)) λd=>A1 d (K a0 H) (jn (λb c e=>GF Ad b (some c) none none λf=>A0j 1 Ag f e λg=>GF Ad b none (some c) none λh=>K h g) λi=>Al Ab .add a (Aq 1) λj=>jn (λk l m=>i k l m) λn=>Jx L R K n L a0 a1 a j H)
def XM:I4:=λL R a0 a1 H K=>Mt 40 L R a0 a1 H K _
def No:Hw:=λL R a0 H K=>GO 41 L R a0 H K _
def XL:I4:=λL R a0 a1 H K=>Mt 42 L R a0 a1 H K _
def kF:Hw:=λL R a0 H K=>GO 43 L R a0 H K _
def Wy:Hw:=λL R a0 H K=>GO 44 L R a0 H K _
def LX:Hw:=λL R a0 H K=>GO 45 L R a0 H K _
def Dp:IP TZ F7N:=λL R K k ih d e f a g h c b=>Al Ab .lss c h λl=>A1 l (GI Ad g c Ag b λm=>B3 a b (A9 Aa f b (BE b)) λn i=>B3 a i (some (m,i)) λo j=>B3 a j (Dk (E L) R n [o] j λv H=>some (v,H)) λp q=>B0 a p EV λr=>Al Ab .add c (Aq 1) λs=>ih d e f r g h s q) (k d e a b)
def DL:IN TZ F7N:=Ja z7N Dp
theorem FF:KU DL Dp:=λ_ _ _ _ _=>rfl
def F0:Y4N:=λL R a0 a1 a2 a3 H K=>A9 Cq a1 H λp=>Nt a0 λq=>VU Sn true p q H λe=>Cg e 0 λr=>Cg e 1 λs=>A1 s (K r H) (A9 Cq a1 H λt=>Nt a0 λu=>VT t u EV H λd=>A9 Bh a2 d λv=>Nt a0 λw=>VU Ac true v w d λf=>Cg f 0 λx=>Cg f 1 λa=>Bc Ae Ac d λb y=>DD Ac b x y λz=>Qg a z 0 b Ab λaa g=>B3 a g (Al Ab .eql aa (Aq 1) (BE g)) λab h=>B3 a h (some (ab,h)) λc ac=>Tg c ac 31 b Ad λad i=>EU c i (Bi Ad ad (BE i)) λae j=>EU c j (Al Ab .gtr ae (Aq 0) (BE j)) λaf k=>B3 a k (B0 c JR af (BE k)) λag l=>B0 a ag EV λah=>jn (λai aj m n=>A9 Cq aj n λak=>Nt ai λal=>VT ak al m n λam=>K m am) λan=>DV 31 b Ad l λo=>Bi Ad o λao=>jn (λap aq ar au=>an ap aq ar au) λav=>DL L R K av L a0 a1 a3 ah o ao (Aq 0) l)
def SF:I4:=λL R a0 a1 H K=>jn (λb c=>Al Ab .rem b a1 λd=>K d c) λa=>Al Ab .lss a0 (Aq 0) λe=>A1 e (Al Ab .add a0 (Aq 1) λf=>Nh .neg f λg=>a g H) (a a0 H)
def QN:IP TA Sd:=λL R K o ih g h a b c=>Al Ab .lss b (Aq 6) λp=>A1 p (jn (λq=>Al Ab .add b (Aq 1) λr=>ih g h a r q) λs=>jn (λt=>s t) λi=>GI Be g b Ab c λu=>Ak R GU [u,(Aq 17)] c λv=>Al Ab .sub v (Aq 8) λj=>Al Ab .neq j (Aq 0) λd=>Qg d c 2 a A8 λw k=>B3 d k (Bi A8 w (BE k)) λx l=>B3 d l (Al Ab .lss x (Aq 5) (BE l)) λy e=>B0 d y EV λz=>A1 z (Ak R EA [j,(Aq 4)] e λm=>Cg m 0 λaa=>Cg m 1 λam=>Bc AU Au e λn ab=>DD Au n aa ab λf=>DV 2 a A8 f λac=>Al Ab .add (Aq 1) b λad=>A9 Au n f λae=>Ch BC [(0,1,ad),(1,2,ae)] λaf=>F4 AM 3 BC 1 [(0,3,af)] f λag ah=>DJ AM 3 BC A8 ac ag ah λai aj=>CC 2 a λak=>DD A8 ak ai aj λal=>i al) (i e)) (o h a c)
def QM:IN TA Sd:=Ja rI QN
theorem dX:KU QM QN:=λ_ _ _ _ _=>rfl
def SQ:Y3N:=λL R a0 a1 a2 H K=>HT GH a2 H λi j=>Bc Dw DK j λk l=>Ch DK [] λm=>Bc Dw DK l λa n=>DD DK a m n λb=>Ak R GU [a0,(Aq 161)] b λo=>Al Ab .sub o (Aq 80) λp=>Ak R EA [p,(Aq 4)] b λd=>Cg d 0 λq=>Cg d 1 λae=>CC 0 a λr=>DD Au r q b λc=>Ak R GU [a1,(Aq 9)] c λs=>Ak R EA [s,(Aq 4)] c λe=>Cg e 0 λt=>Cg e 1 λaf=>CC 3 a λu=>DD Au u t c λv=>jn (λf w g=>A9 DK w g λx=>DD DK f x g λh=>A9 DK f h λy=>K y h) λz=>jn (λaa ab ac=>z aa ab ac) λad=>QM L R K ad L i k a (Aq 0) v
def SL:Hw:=λL R a0 H K=>GO 53 L R a0 H K _
def JX:IP TZ WS:=λL R K aj ih ak o u al w d am h an p ao=>Bi GZ o λap=>Al Ab .lss p ap λi=>Qg i ao 2 d Ar λaq x=>B3 i x (Bi Ar aq (BE x)) λar y=>B3 i y (Al Ab .lss ar (Aq 14) (BE y)) λau q=>B0 i au EV λav=>A1 av (jn (λaw ax=>Al Ab .add p (Aq 1) λay=>ih ak o u al w d am aw an ay ax) λaz=>jn (λa0 a1=>az a0 a1) λz=>GI GZ o p BZ q λa2=>Bc FB BZ q λc a3=>DD BZ c a2 a3 λj=>DV 2 d Ar j λa4=>Bi Ar a4 λe=>Cy BZ c (Aq 0) λa5=>A9 Ab a5 j λa6=>Ak R BH [a6,(Aq 8)] j λa7=>Al Ab .add (Aq 1) a7 λa8=>Ch AC [(0,1,a8)] λa9=>Bc AF AC j λb aA=>DD AC b a9 aA λa=>jn (λk=>A9 AE d k λaB=>A9 AC b k λaC=>Ak R BW [aB,aC,e,h] k λaa=>Cg aa 0 λaD=>Cg aa 1 λaE=>Bc Ax Ap k λab aF=>DD Ap ab aD aF λac=>Al Ab .eql aE (Aq 0) λf=>B3 f ac (some (u,ac)) λaG ad=>B3 f ad (Nh .not aG (BE ad)) λaH ae=>B3 f ae (some (aH,ae)) λr aI=>Tg r aI 0 b Ab λaJ af=>EU r af (Al Ab .neq aJ (Aq 8) (BE af)) λaK ag=>B3 f ag (B0 r JR aK (BE ag)) λaL l=>B0 f aL EV λaM=>A1 aM (DV 2 d Ar l λaN=>A9 AC b l λaO=>F4 AF 26 AC 1 [(0,26,aO)] l λaP aQ=>DJ AF 26 AC Ar aN aP aQ λaR aS=>CC 2 d λaT=>DD Ar aT aR aS λah=>A9 Ap ab ah λaU=>F4 Ax 20 Ap 1 [(0,20,aU)] ah λaV aW=>DJ Ax 20 Ap Am h aV aW λaX aY=>z aX aY) (z h l)) λaZ=>DV 0 b Ab a λm=>jn (λba=>aZ ba) λg=>Al Ab .eql m (Aq 1) λbb=>A1 bb (Ai (Cy BZ c (Aq 1) A2) λbc=>Ai (A9 Ab bc a A2) λbd=>Ai (Ak R BH [bd,(Aq 13)] a A2) λbe=>Ai (Al Ab .sub be (Aq 6) A2) λbf=>Ai (Cy BZ c (Aq 2) A2) λbg=>Ai (A9 Ab bg a A2) λbh=>Ai (Ak R BH [bh,(Aq 4)] a A2) λbi=>Ai (Al Ab .add (Aq 1) bi A2) λbj=>Ai (Ak R EA [bf,bj] a A2) λai=>Ai (Cg ai 0 A2) λbk=>Ai (Cg ai 1 A2) λbS=>Ai (CC 1 b A2) λbl=>DF (DD Au bl bk a λH=>some (AV.v undef,H)) λbT s=>Cy BZ c (Aq 3) λbm=>A9 Ab bm s λbn=>Ak R E9 [bn] s λbo=>CC 3 b λbp=>DD Ap bp bo s λbq=>g bq) (Al Ab .eql m (Aq 2) λbr=>A1 br (Cy BZ c (Aq 1) λbs=>A9 Ab bs a λbt=>DV 1 d Am a λbu=>Bi Am bu λbv=>Ak R BH [bt,bv] a λbw=>CC 23 b λbx=>DD Ab bx bw a λbz=>g bz) (Al Ab .eql m (Aq 7) λb0=>A1 b0 (Cy BZ c (Aq 1) λb1=>A9 Ab b1 a λb2=>Ak R BH [b2,e] a λb3=>CC 24 b λb4=>DD Ab b4 b3 a λb5=>F4 Fh 1 Ab 5 [(0,1,(Aq 2)),(1,1,(Aq (-1))),(2,1,(Aq 3)),(3,1,(Aq (-2))),(4,1,(Aq 1))] b5 λb6 n=>Cy BZ c (Aq 2) λb7=>A9 Ab b7 n λb8=>Ak R BH [b8,(Aq 5)] n λb9=>GI Ba b6 b9 Ab n λbA=>CC 23 b λbB=>DD Ab bB bA n λbC=>g bC) (Al Ab .eql m (Aq 8) λbD=>A1 bD (Cy BZ c (Aq 1) λbE=>A9 Ab bE a λbF=>Ak R BH [bF,e] a λbG=>CC 24 b λbH=>DD Ab bH bG a λbI=>g bI) (Cy BZ c (Aq 1) λbJ=>A9 Ab bJ a λbK=>Ak R BH [bK,e] a λbL=>CC 24 b λbM=>DD Ab bM bL a λt=>Cy BZ c (Aq 2) λbN=>A9 Ab bN t λbO=>Ak R BH [bO,e] t λbP=>CC 25 b λbQ=>DD Ab bQ bP t λbR=>g bR))))) (aj w d h q)
def JW:IN TZ WS:=Ja G? JX
theorem NJ:KU JW JX:=λ_ _ _ _ _=>rfl
def QL:IP F9N WS:=λL R K l ih e f g h i a j k b m c=>DV 1 a Am c λn=>Bi Am n λo=>Al Ab .lss b o λp=>A1 p (DV 2 a Ar c λq=>Ch AC [(0,1,(Aq 2)),(23,1,b)] λr=>F4 AF 26 AC 1 [(0,26,r)] c λs t=>DJ AF 26 AC Ar q s t λu v=>CC 2 a λw=>DD Ar w u v λd=>DV 1 a Am d λx=>GI Am x b Ap d λy=>F4 Ax 20 Ap 1 [(0,20,y)] d λz aa=>DJ Ax 20 Ap Am k z aa λab ac=>Al Ab .add b (Aq 1) λad=>ih e f g h i a j ab ad m ac) (l e f g h i a j k b c)
def QJ:IN F9N WS:=Ja G? QL
theorem dW:KU QJ QL:=λ_ _ _ _ _=>rfl
def QK:IP oO WS:=λL R K m ih d f g e h b c n o i a=>Ak R BH [d,(Aq 3)] a λp=>Al Ab .leq c p λq=>A1 q (Ai (CC 1 b A2) λj=>Ai (A9 Am j a A2) λk=>Mf OI e c Ab a λr=>Ai (Ak R E9 [r] a A2) λs=>DF (F4 Ax 20 Ap 1 [(0,20,s)] a λv H=>some (v,H)) λt l=>DF (DJ Ax 20 Ap Am k t l λv H=>some (v,H)) λu w=>Ai (CC 1 b A2) λx=>DF (DD Am x u w λH=>some (AV.v undef,H)) λaa y=>Qm (AN (A9 Am j l A2) k) (Al Ab .add c (Aq 1) λz=>ih d f g e h b z n o i y)) (m d f g e h b c i a)
def QI:IN oO WS:=Ja G? QK
theorem dV:KU QI QK:=λ_ _ _ _ _=>rfl
def SM:Y4N:=λL R a0 a1 a2 a3 H K=>HT RC a0 H λi j=>Bc BK AE j λk a=>Ak R BH [a1,(Aq 900)] a λl=>Al Ab .add (Aq 1) l λm=>Ch AE [(0,1,m)] λn=>Bc BK AE a λb o=>DD AE b n o λp=>jn (λq r s t u v w x y=>jn (λz aa ab ac ad ae af ag ah ai=>jn (λc d e f=>Bi Am e λaj=>Al Ab .sub aj (Aq 1) λak=>GI Am e ak Ap f λal=>CC 3 d λam=>DD Ap am al f λg=>A9 AE d g λan=>DD AE c an g λh=>A9 AE c h λao=>K ao h) λap=>jn (λaq ar au av=>ap aq ar au av) λaw=>JW L R K aw L z aa ab ac ad ae af ag ah (Aq 0) ai) λax=>jn (λay az a4 a5 a6 a7 a8 a9 aA aB=>ax ay az a4 a5 a6 a7 a8 a9 aA aB) λaC=>QJ L R K aC L q r s t u v w UF (Aq 0) x y) λaD=>jn (λaE aF aG aH aI aJ aK aL aM=>aD aE aF aG aH aI aJ aK aL aM) λaN=>QI L R K aN L a1 a2 a3 i k b (Aq 0) AV.dk AV.dk AV.dk p
def SH:Hw:=λL R a0 H K=>Bc Ib CK H λc d=>Ak R Bs [a0,(Aq 3)] d λh=>Al Ab .add (Aq 1) h λi=>Ch Au [(0,1,(Rw [45,53])),(1,1,(Rw [49]))] λj=>Ch Au [(0,1,(Rw [50,53])),(1,1,(Rw [50]))] λk=>Ch Au [(0,1,(Rw [48])),(1,1,(Rw [49]))] λl=>Ch Au [(0,1,(Rw [49])),(1,1,(Rw [50,48]))] λm=>Ch CK [(0,1,i),(1,2,j),(3,2,k),(5,2,l),(7,2,m)] λn=>Bc Ib CK d λa o=>DD CK a n o λb=>jn (λe=>A9 CK a e λp=>DD CK c p e λf=>A9 CK c f λq=>K q f) λg=>DV 0 a Ab b λr=>Al Ab .eql r (Aq 2) λs=>A1 s (Ch Au [(0,1,(Rw [49])),(1,1,(Rw [50]))] λt=>CC 5 a λu=>DD Au u t b λv=>g v) (g b)
def FW:Hw:=λL R a0 H K=>R.call FH [a0] H λa b=>R.call BS [a] b λd c=>K a c
def Cv:Hw:=λL R a0 H K=>GO 57 L R a0 H K _
def E5:Hw:=λL R a0 H K=>GO 61 L R a0 H K _
def EJ:IP Ru Sd:=λL R K g ih c d e b a=>Al Ab .lss b e λh=>A1 h (GI Ba d b Ab a λi=>Ak R Kj [i] a λf=>Cg f 0 λj=>Cg f 1 λo=>Mv c λk=>CC 0 k λl=>R.call Bk [l,j] a λp m=>Al Ab .add b (Aq 1) λn=>ih c d e n m) (g a)
def EI:IN Ru Sd:=Ja rI EJ
theorem La:KU EI EJ:=λ_ _ _ _ _=>rfl
def Fa:I4:=λL R a0 a1 H K=>Bi Ba a1 λa=>jn (λb=>K (AV.tup []) b) λc=>EI L R K c L a0 a1 a (Aq 0) H
def Fu:IP Ru Sd:=λL R K g ih c d e b a=>Al Ab .lss b e λh=>A1 h (GI Ad d b Ag a λi=>Ak R MM [i] a λf=>Cg f 0 λj=>Cg f 1 λo=>Mv c λk=>CC 0 k λl=>R.call Bk [l,j] a λp m=>Al Ab .add b (Aq 1) λn=>ih c d e n m) (g a)
def Ft:IN Ru Sd:=Ja rI Fu
theorem LV:KU Ft Fu:=λ_ _ _ _ _=>rfl
def FK:I4:=λL R a0 a1 H K=>Bi Ad a1 λa=>jn (λb=>K (AV.tup []) b) λc=>Ft L R K c L a0 a1 a (Aq 0) H
def EX:IP Ru Sd:=λL R K h ih e f g a b=>Al Ab .lss a g λi=>A1 i (GI GG f a Au b λj=>Bc AU Au b λc k=>DD Au c j k λd=>DV 0 c Ag d λl=>DV 1 c Ag d λm=>F4 A0 1 Ag 2 [(0,1,l),(1,1,m)] d λn o=>R.call BM [e,n] o λr p=>Al Ab .add a (Aq 1) λq=>ih e f g q p) (h b)
def EW:IN Ru Sd:=Ja rI EX
theorem Lt:KU EW EX:=λ_ _ _ _ _=>rfl
def Fz:I4:=λL R a0 a1 H K=>Bi GG a1 λa=>jn (λb=>K (AV.tup []) b) λc=>EW L R K c L a0 a1 a (Aq 0) H
def K6:IP TA oO:=λL R K i ih e a j k l f g b c=>Al Ab .lss b g λm=>A1 m (GI Ar f b AC c λn=>Bc AF AC c λh o=>DD AC h n o λd=>A9 AC h d λp=>Ak R Eg [p] d λq=>Al Ag .add q (Rw [10]) λr=>R.call Bk [a,r] d λu s=>Al Ab .add b (Aq 1) λt=>ih e a j k l f g t s) (i e a c)
def K4:IN TA oO:=Ja z8N K6
theorem Uy:KU K4 K6:=λ_ _ _ _ _=>rfl
def K5:IP fK oO:=λL R K j ih g b c d a k l m e=>Al Ab .lss a d λn=>A1 n (GI Am c a Ap e λo=>Bc Ax Ap e λh p=>DD Ap h o p λf=>A9 Ap h f λq=>Ak R GR [q] f λi=>Cg i 0 λr=>Cg i 1 λw=>Al Ag .add (Rw [103,105,118,101,110,32]) r λs=>Al Ag .add s (Rw [10]) λt=>R.call Bk [b,t] f λx u=>Al Ab .add a (Aq 1) λv=>ih g b c d v k l m u) (j g b c d a e)
def K3:IN fK oO:=Ja z8N K5
theorem Ux:KU K3 K5:=λ_ _ _ _ _=>rfl
def L1:Hw:=λL R a0 H K=>HT BK a0 H λa b=>A9 AE a b λm=>Ak R EB [m] b λn=>Nh .not n λo=>A1 o (K (AV.tup [(Rw []),(Aq 90)]) b) (Bc Dq Bl b λe c=>DV 0 a Ab c λp=>Ak R Bu [p] c λq=>Al Ag .add (Rw [112,114,111,99,101,100,117,114,101,32]) q λr=>Al Ag .add r (Rw [10]) λs=>R.call Bk [e,s] c λaw f=>jn (λg t u v w h=>jn (λx i d=>DV 3 x Ap d λy=>Ak R GR [y] d λj=>Cg j 0 λz=>Cg j 1 λax=>Al Ag .add (Rw [111,117,116,112,117,116,32]) z λaa=>Al Ag .add aa (Rw [10]) λab=>R.call Bk [i,ab] d λay ac=>R.call D1 [i] ac λad ae=>K (AV.tup [ad,(Aq 0)]) ae) λaf=>DV 2 g Ar h λk=>Bi Ar k λag=>jn (λah ai aj=>af ah ai aj) λak=>K4 L R K ak L g t u v w k ag (Aq 0) h) λal=>DV 1 a Am f λl=>Bi Am l λam=>jn (λan ao ap aq ar au=>al an ao ap aq ar au) λav=>K3 L R K av L a e l am (Aq 0) AV.dk AV.dk AV.dk f)
def HM:Hw:=λL R a0 H K=>GO 69 L R a0 H K _
def Gr:Hw:=λL R a0 H K=>GO 70 L R a0 H K _
def FX:I4:=λL R a0 a1 H K=>HT E1 a0 H λc d=>HT Fh a1 d λa b=>jn (λe=>K (AV.fn (.func GS) [] [c,a]) e) λf=>A9 Ab a b λg=>Al Ab .lss g (Aq 1) λh=>A1 h (none) (f b)
def IB:IP Ru A':=λL R K e ih c f d g h a b=>Al Ab .lss a (Aq 8) λi=>A1 i (Ai (Mv c A2) λj=>Mf AA j a Ah b λk=>Mf AA d a Ah b λl=>Ai (Al Ah .add k l A2) λm=>Ai (Mv c A2) λn=>Ai (Cy AA n a A2) λo=>DF (DD Ah o m b λH=>some (AV.v undef,H)) λr p=>Al Ab .add a (Aq 1) λq=>ih c f d g h q p) (e b)
def I9:IN Ru A':=Ja z6N IB
theorem RK:KU I9 IB:=λ_ _ _ _ _=>rfl
def IA:IP fK A':=λL R K k ih h d a e c l b=>Al Ab .lss c (Aq 64) λm=>A1 m (Yp BB Ah e c λn=>Ai (Cy AA a (Aq 0) A2) λo=>Ai (A9 Ah o b A2) λf=>Ai (Cy AA a (Aq 4) A2) λp=>Ai (A9 Ah p b A2) λg=>Ai (Cy AA a (Aq 7) A2) λq=>Ai (A9 Ah q b A2) λr=>Ai (Qa 1 Ab 3 [(0,1,(Aq 6)),(1,1,(Aq 11)),(2,1,(Aq 25))] A2) λs=>Ai (Ak R D2 [g,s] b A2) λt=>Ai (Al Ah .add r t A2) λu=>Ai (Cy AA a (Aq 5) A2) λw=>Ai (A9 Ah w b A2) λx=>Ai (Al Ah .and g x A2) λy=>Ai (Nh .xor g A2) λz=>Ai (Cy AA a (Aq 6) A2) λaa=>Ai (A9 Ah aa b A2) λab=>Ai (Al Ah .and z ab A2) λac=>Ai (Al Ah .xor y ac A2) λad=>Ai (Al Ah .add u ad A2) λae=>Ai (Al Ah .add ae n A2) λaf=>Mf BB d c Ah b λag=>Ai (Al Ah .add af ag A2) λi=>Ai (Qa 1 Ab 3 [(0,1,(Aq 2)),(1,1,(Aq 13)),(2,1,(Aq 22))] A2) λah=>Ai (Ak R D2 [f,ah] b A2) λai=>Ai (Cy AA a (Aq 1) A2) λaj=>Ai (A9 Ah aj b A2) λak=>Ai (Al Ah .and f ak A2) λal=>Ai (Cy AA a (Aq 2) A2) λam=>Ai (A9 Ah am b A2) λan=>Ai (Al Ah .and f an A2) λao=>Ai (Al Ah .xor al ao A2) λap=>Ai (Cy AA a (Aq 1) A2) λaq=>Ai (A9 Ah aq b A2) λar=>Ai (Cy AA a (Aq 2) A2) λau=>Ai (A9 Ah au b A2) λav=>Ai (Al Ah .and ar av A2) λaw=>Ai (Al Ah .xor ap aw A2) λax=>Ai (Al Ah .add ai ax A2) λay=>Ai (oM 8 1 a (some (Aq 1)) none b A2) λaz=>Ai (oM 8 1 a none (some (Aq 7)) b A2) λa0=>DF (zD 1 az a0 b λv H=>some (v,H)) λaA j=>Al Ah .add i ay λa1=>Cy AA a (Aq 4) λa2=>A9 Ah a2 j λa3=>Al Ah .add a3 i λa4=>Cy AA a (Aq 0) λa5=>DD Ah a5 a1 j λa6=>Cy AA a (Aq 4) λa7=>DD Ah a7 a4 a6 λa8=>Al Ab .add c (Aq 1) λa9=>ih h d a e a9 l a8) (k h d a e c b)
def I8:IN fK A':=Ja z6N IA
theorem RJ:KU I8 IA:=λ_ _ _ _ _=>rfl
def Ji:I4:=λL R a0 a1 H K=>Ak R LL [a1] H λe=>Bc Cn BB H λa f=>DD BB a e f λb=>Mv a0 λg=>A9 AA g b λh=>Bc Bm AA b λc i=>DD AA c h i λd=>jn (λj k l m n o=>jn (λp=>K (AV.tup []) p) λq=>I9 L R K q L j k l m n (Aq 0) o) λr=>A9 BB (AV.iptr gl0) d λs=>jn (λt u v w x y=>r t u v w x y) λz=>I8 L R K z L a0 a c s (Aq 0) AV.dk d
def Iq:IP A' A':=λL R K h ih b c d e f a g=>Al Ab .lss a (Aq 4) λi=>A1 i (Al Ab .mul (Aq 4) c λj=>Al Ab .add j a λk=>Al Ab .mul (Aq 8) a λl=>Al Ab .sub (Aq 24) l λm=>Al Ah .shr d m λn=>EE Ah AB n λo=>Cy Qz b k λp=>DD AB p o g λq=>Al Ab .add a (Aq 1) λr=>ih b c d e f r q) (h b c d e f a g)
def Io:IN A' A':=Ja z6N Iq
theorem Rn:KU Io Iq:=λ_ _ _ _ _=>rfl
def Ir:IP V8 A':=λL R K e ih b ag ah c a ai d=>Al Ab .lss a (Aq 8) λf=>A1 f (jn (λg h i j k l m=>Al Ab .add k (Aq 1) λn=>ih g h i j n l m) λo=>jn (λp q r s t u v=>o p q r s t u v) λw=>Yp AA Ah c a λx=>jn (λy z aa ab ac ad ae=>w y z aa ab ac ad ae) λaf=>Io L R K af L b a x c a (Aq 0) d) (e b d)
def Ip:IN V8 A':=Ja z6N Ir
theorem Ro:KU Ip Ir:=λ_ _ _ _ _=>rfl
def IF:Hw:=λL R a0 H K=>HT Bm a0 H λc d=>Bc Sp Qz d λe b=>jn (λf a=>oM 32 1 f none none a λg=>fE g a λh=>K h a) λi=>A9 AA c b λj=>jn (λk l=>i k l) λm=>Ip L R K m L e AV.dk AV.dk j (Aq 0) AV.dk b
def Lo:IP V8 Sd:=λL R K e ih b c f a d=>Al Ab .geq a (Aq 0) λg=>A1 g (Bi Ag b λh=>Al Ab .mul (Aq 8) h λi=>Al Ab .mul (Aq 8) a λj=>Al Ab .shr i j λk=>EE Ab AB k λl=>F4 AI 1 AB 1 [(0,1,l)] d λm n=>DJ AI 1 AB A5 c m n λo p=>Al Ab .sub a (Aq 1) λq=>ih b o f q p) (e c d)
def IS:IN V8 Sd:=Ja rI Lo
theorem VC:KU IS Lo:=λ_ _ _ _ _=>rfl
def Ln:IP TZ Sd:=λL R K e ih b a c f d=>Bi A5 a λg=>Al Ab .rem g (Aq 64) λh=>Al Ab .neq h (Aq 56) λi=>A1 i (F4 AI 1 AB 1 [(0,1,(AV.v (.int .u8 0)))] d λj k=>DJ AI 1 AB A5 a j k λl m=>ih b l c f m) (e b a c d)
def Ll:IN TZ Sd:=Ja rI Ln
theorem VB:KU Ll Ln:=λ_ _ _ _ _=>rfl
def Lm:IP Sd Sd:=λL R K f ih a c b d e=>Bi Ag a λg=>Al Ab .lss b g λh=>A1 h (Yp Ag Ag a b λi=>F4 AI 1 AB 1 [(0,1,i)] e λj k=>DJ AI 1 AB A5 c j k λl m=>Al Ab .add b (Aq 1) λn=>ih a l n d m) (f a c b d e)
def Lj:IN Sd Sd:=Ja rI Lm
theorem VA:KU Lj Lm:=λ_ _ _ _ _=>rfl
def Mx:Hw:=λL R a0 H K=>jn (λa b c d e=>F4 AI 1 AB 1 [(0,1,(AV.v (.int .u8 128)))] e λf g=>DJ AI 1 AB A5 b f g λh i=>jn (λj k l m=>jn (λn o=>K n o) λp=>jn (λq r=>p q r) λs=>IS L R K s L j k l (Aq 7) m) λt=>jn (λu w x y=>t u w x y) λz=>Ll L R K z L a h c d i) λaa=>jn (λab ac ad ae af=>aa ab ac ad ae af) λag=>Lj L R K ag L a0 UF (Aq 0) AV.dk H
def Pf:IP V8 WS:=λL R K f ih c g h i j k d l e a b=>Al Ab .lss a (Aq 8) λm=>A1 m (Mf A3 c a Ah b λn=>Mf A3 d a Ah b λo=>Ai (Al Ah .add n o A2) λp=>DF (F4 B9 1 Ah 1 [(0,1,p)] b λv H=>some (v,H)) λq r=>DF (DJ B9 1 Ah A3 e q r λv H=>some (v,H)) λs t=>Al Ab .add a (Aq 1) λu=>ih c g h i j k d l s u t) (f e b)
def Pb:IN V8 WS:=Ja G? Pf
theorem YT:KU Pb Pf:=λ_ _ _ _ _=>rfl
def Pe:IP oO WS:=λL R K m ih h i f j k g b e n o a=>Al Ab .lss e (Aq 64) λp=>A1 p (Cy A3 b (Aq 0) λq=>A9 Ah q a λc=>Cy A3 b (Aq 4) λr=>A9 Ah r a λd=>Ai (Cy A3 b (Aq 7) A2) λs=>Ai (A9 Ah s a A2) λt=>Ai (Ak R Cx [d,(Aq 6)] a A2) λu=>Ai (Ak R Cx [d,(Aq 11)] a A2) λw=>Ai (Al Ah .xor u w A2) λx=>Ai (Ak R Cx [d,(Aq 25)] a A2) λy=>Ai (Al Ah .xor x y A2) λz=>Ai (Al Ah .add t z A2) λaa=>Ai (Cy A3 b (Aq 5) A2) λab=>Ai (A9 Ah ab a A2) λac=>Ai (Al Ah .and d ac A2) λad=>Ai (Nh .xor d A2) λae=>Ai (Cy A3 b (Aq 6) A2) λaf=>Ai (A9 Ah af a A2) λag=>Ai (Al Ah .and ae ag A2) λah=>Ai (Al Ah .xor ad ah A2) λai=>Ai (Al Ah .add aa ai A2) λaj=>Mf A3 g e Ah a λak=>Ai (Al Ah .add aj ak A2) λal=>Mf A3 f e Ah a λam=>Ai (Al Ah .add al am A2) λl=>Ai (Ak R Cx [c,(Aq 2)] a A2) λan=>Ai (Ak R Cx [c,(Aq 13)] a A2) λao=>Ai (Al Ah .xor an ao A2) λap=>Ai (Ak R Cx [c,(Aq 22)] a A2) λaq=>Ai (Al Ah .xor ap aq A2) λar=>Ai (Cy A3 b (Aq 1) A2) λau=>Ai (A9 Ah au a A2) λav=>Ai (Al Ah .and c av A2) λaw=>Ai (Cy A3 b (Aq 2) A2) λax=>Ai (A9 Ah ax a A2) λay=>Ai (Al Ah .and c ay A2) λaz=>Ai (Al Ah .xor aw az A2) λa0=>Ai (Cy A3 b (Aq 1) A2) λa1=>Ai (A9 Ah a1 a A2) λa2=>Ai (Cy A3 b (Aq 2) A2) λa3=>Ai (A9 Ah a3 a A2) λa4=>Ai (Al Ah .and a2 a4 A2) λa5=>Ai (Al Ah .xor a0 a5 A2) λa6=>Ai (Al Ah .add ar a6 A2) λa7=>Ai (Al Ah .add l a7 A2) λa8=>Ai (Cy A3 b (Aq 1) A2) λa9=>Ai (A9 Ah a9 a A2) λaA=>Ai (Cy A3 b (Aq 2) A2) λaB=>Ai (A9 Ah aB a A2) λaC=>Ai (Cy A3 b (Aq 3) A2) λaD=>Ai (A9 Ah aD a A2) λaE=>Ai (Al Ah .add aE l A2) λaF=>Ai (Cy A3 b (Aq 5) A2) λaG=>Ai (A9 Ah aG a A2) λaH=>Ai (Cy A3 b (Aq 6) A2) λaI=>Ai (A9 Ah aI a A2) λaJ=>DF (F4 B9 1 Ah 8 [(0,1,a8),(1,1,c),(2,1,aA),(3,1,aC),(4,1,aF),(5,1,d),(6,1,aH),(7,1,aJ)] a λv H=>some (v,H)) λaK aL=>Al Ab .add e (Aq 1) λaM=>ih h i f j k g aK aM n o aL) (m h i f j k g b e a)
def OZ:IN oO WS:=Ja G? Pe
theorem YS:KU OZ Pe:=λ_ _ _ _ _=>rfl
def Pd:IP F7N WS:=λL R K i ih d e c f b j k l g h a=>Al Ab .lss b (Aq 64) λm=>A1 m (Ai (Al Ab .sub b (Aq 15) A2) λn=>Mf A3 c n Ah a λo=>Ai (Ak R Cx [o,(Aq 7)] a A2) λp=>Ai (Al Ab .sub b (Aq 15) A2) λq=>Mf A3 c q Ah a λr=>Ai (Ak R Cx [r,(Aq 18)] a A2) λs=>Ai (Al Ah .xor p s A2) λt=>Ai (Al Ab .sub b (Aq 15) A2) λu=>Mf A3 c u Ah a λw=>Ai (Al Ah .shr w (AV.v (.int .u64 3)) A2) λx=>Ai (Al Ah .xor t x A2) λy=>Ai (Al Ab .sub b (Aq 2) A2) λz=>Mf A3 c z Ah a λaa=>Ai (Ak R Cx [aa,(Aq 17)] a A2) λab=>Ai (Al Ab .sub b (Aq 2) A2) λac=>Mf A3 c ac Ah a λad=>Ai (Ak R Cx [ad,(Aq 19)] a A2) λae=>Ai (Al Ah .xor ab ae A2) λaf=>Ai (Al Ab .sub b (Aq 2) A2) λag=>Mf A3 c ag Ah a λah=>Ai (Al Ah .shr ah (AV.v (.int .u64 10)) A2) λai=>Ai (Al Ah .xor af ai A2) λaj=>Ai (Al Ab .sub b (Aq 16) A2) λak=>Mf A3 c ak Ah a λal=>Ai (Al Ah .add al y A2) λam=>Ai (Al Ab .sub b (Aq 7) A2) λan=>Mf A3 c an Ah a λao=>Ai (Al Ah .add am ao A2) λap=>Ai (Al Ah .add ap aj A2) λaq=>DF (F4 B9 1 Ah 1 [(0,1,aq)] a λv H=>some (v,H)) λar au=>DF (DJ B9 1 Ah A3 c ar au λv H=>some (v,H)) λav aw=>Al Ab .add b (Aq 1) λax=>ih d e av f ax j k l g h aw) (i d e c f b g h a)
def OY:IN F7N WS:=Ja G? Pd
theorem YR:KU OY Pd:=λ_ _ _ _ _=>rfl
def Pc:IP F9N WS:=λL R K k ih d b e a l f g h i j c=>Al Ab .lss a (Aq 16) λm=>A1 m (Ai (Al Ab .mul (Aq 4) a A2) λn=>Mf A5 b n AB c λo=>Ai (EE AB Ah o A2) λp=>Ai (Al Ah .shl p (AV.v (.int .u64 24)) A2) λq=>Ai (Al Ab .mul (Aq 4) a A2) λr=>Ai (Al Ab .add r (Aq 1) A2) λs=>Mf A5 b s AB c λt=>Ai (EE AB Ah t A2) λu=>Ai (Al Ah .shl u (AV.v (.int .u64 16)) A2) λw=>Ai (Al Ah .or q w A2) λx=>Ai (Al Ab .mul (Aq 4) a A2) λy=>Ai (Al Ab .add y (Aq 2) A2) λz=>Mf A5 b z AB c λaa=>Ai (EE AB Ah aa A2) λab=>Ai (Al Ah .shl ab (AV.v (.int .u64 8)) A2) λac=>Ai (Al Ah .or x ac A2) λad=>Ai (Al Ab .mul (Aq 4) a A2) λae=>Ai (Al Ab .add ae (Aq 3) A2) λaf=>Mf A5 b af AB c λag=>Ai (EE AB Ah ag A2) λah=>Ai (Al Ah .or ad ah A2) λai=>DF (F4 B9 1 Ah 1 [(0,1,ai)] c λv H=>some (v,H)) λaj ak=>DF (DJ B9 1 Ah A3 e aj ak λv H=>some (v,H)) λal am=>Al Ab .add a (Aq 1) λan=>ih d b al an l f g h i j am) (k d b e a f g h i j c)
def OX:IN F9N WS:=Ja G? Pc
theorem YQ:KU OX Pc:=λ_ _ _ _ _=>rfl
def QW:I4:=λL R a0 a1 H K=>jn (λc d e f g h i j k l=>jn (λa m n o p q r b=>Ak R LF [] b λs=>DJ B9 1 Ah A3 UF a b λt u=>jn (λv w x y z aa ab ac ad=>jn (λae af=>K ae af) λag=>jn (λah ai=>ag ah ai) λaj=>Pb L R K aj L v w x y z aa ab ac UF (Aq 0) ad) λak=>jn (λal am an ao ap aq ar au av=>ak al am an ao ap aq ar au av) λaw=>OZ L R K aw L a m n o p s t (Aq 0) q r u) λax=>jn (λay az a2 a3 a4 a5 a6 a7=>ax ay az a2 a3 a4 a5 a6 a7) λa8=>OY L R K a8 L c d e f (Aq 16) g h i j k l) λa9=>jn (λaA aB aC aD aE aF aG aH aI aJ=>a9 aA aB aC aD aE aF aG aH aI aJ) λaK=>OX L R K aK L a0 a1 UF (Aq 0) AV.dk AV.dk AV.dk AV.dk AV.dk AV.dk H
def NM:IP TA TA:=λL R K d ih a b c=>Al AZ .geq a (AV.v (.int .u64 128)) λe=>A1 e (Al AZ .rem a (AV.v (.int .u64 128)) λf=>Al AZ .add f (AV.v (.int .u64 128)) λg=>EE AZ AB g λh=>F4 AI 1 AB 1 [(0,1,h)] c λi j=>DJ AI 1 AB A5 b i j λk l=>Al AZ .quo a (AV.v (.int .u64 128)) λm=>ih m k l) (d a b c)
def NL:IN TA TA:=Ja z2N NM
theorem Xv:KU NL NM:=λ_ _ _ _ _=>rfl
def Pu:Hw:=λL R a0 H K=>Al Ab .lss a0 (Aq (-4611686018427387903)) λa=>EU a H (some (a0,H)) λe c=>EU a c (Al Ab .gtr e (Aq 4611686018427387903) (BE c)) λf b=>B0 a JR f λg=>A1 g (K (AV.tup [(Rw []),(Aq 10)]) b) (Ak R PM [a0] b λh=>jn (λi j k=>EE AZ AB i λl=>F4 AI 1 AB 1 [(0,1,l)] k λm n=>DJ AI 1 AB A5 j m n λo d=>fE o d λp=>K (AV.tup [p,(Aq 0)]) d) λq=>jn (λr s t=>q r s t) λu=>NL L R K u L h UF b)
def Gq:Hw:=λL R a0 H K=>GO 77 L R a0 H K _
def QD:IP TA TZ:=λL R K g ih c f d a=>CC 26 c λh=>DV 2 h A8 a λi=>Bi A8 i λj=>Al Ab .lss d j λk=>A1 k (CC 26 c λl=>DV 2 l A8 a λm=>GI A8 m d BC a λn=>Bc AM BC a λe o=>DD BC e n o λb=>Sb 0 e Ab b λp=>Ai (Qa 1 Ab 1 [(0,1,p)] A2) λq=>Ai (Ak R D4 [q] b A2) λr=>Ai (Al Ag .add f r A2) λs=>Sb 1 e Au b λt=>Ai (Ak R DR [t] b A2) λu=>Ai (Al Ag .add s u A2) λv=>Al Ab .add d (Aq 1) λw=>ih c v w b) (g c f a)
def QC:IN TA TZ:=Ja z3N QD
theorem dS:KU QC QD:=λ_ _ _ _ _=>rfl
def SG:Hw:=λL R a0 H K=>HT Ae a0 H λd a=>DV 6 d Ap a λk=>Ak R Hq [k] a λg=>Cg g 0 λl=>Cg g 1 λaW=>Sb 0 d Ab a λm=>Sb 1 d Ab a λn=>Sb 2 d Ab a λo=>Sb 3 d Ab a λp=>Sb 4 d Ab a λq=>Sb 5 d Ab a λr=>Ai (Qa 1 Ab 6 [(0,1,m),(1,1,n),(2,1,o),(3,1,p),(4,1,q),(5,1,r)] A2) λs=>Ai (Ak R D4 [s] a A2) λt=>Ai (Qa 1 Ag 1 [(0,1,l)] A2) λu=>Ai (Ak R Fm [u] a A2) λv=>Ai (Al Ag .add t v A2) λw=>Ai (CC 26 d A2) λx=>Sb 0 x Au a λy=>Ai (Ak R DR [y] a A2) λz=>Ai (Al Ag .add w z A2) λaa=>Ai (CC 26 d A2) λab=>Sb 2 ab A8 a λac=>Ai (Bi A8 ac A2) λad=>Ai (Qa 1 Ab 1 [(0,1,ad)] A2) λae=>Ai (Ak R D4 [ae] a A2) λaf=>Ai (Al Ag .add aa af A2) λag=>jn (λe ah b=>Ai (CC 26 e A2) λai=>Sb 3 ai Au b λaj=>Ai (Ak R DR [aj] b A2) λak=>Ai (Al Ag .add ah ak A2) λal=>Sb 31 e Ad b λam=>Ai (Bi Ad am A2) λan=>Ai (Qa 1 Ab 1 [(0,1,an)] A2) λao=>Ai (Ak R D4 [ao] b A2) λap=>Ai (Al Ag .add al ap A2) λaq=>Sb 31 e Ad b λar=>Ai (Ak R Fm [ar] b A2) λau=>Ai (Al Ag .add aq au A2) λav=>DV 32 e AE b λaw=>Ak R Hn [aw] b λh=>Cg h 0 λax=>Cg h 1 λaX=>Qa 1 Ag 1 [(0,1,ax)] λay=>Ak R Fm [ay] b λaz=>Al Ag .add av az λi=>jn (λa1 a2=>K a1 a2) λj=>DV 0 e Ab b λa3=>Al Ab .eql a3 (Aq 3) λa4=>A1 a4 (DV 55 e CK b λa5=>Bc Ib CK b λf a6=>DD CK f a5 a6 λc=>Sb 0 f Ab c λa7=>Ai (Qa 1 Ab 1 [(0,1,a7)] A2) λa8=>Ai (Ak R D4 [a8] c A2) λa9=>Ai (Al Ag .add i a9 A2) λaA=>Sb 1 f Au c λaB=>Ai (Ak R DR [aB] c A2) λaC=>Ai (Al Ag .add aA aC A2) λaD=>Sb 3 f Au c λaE=>Ai (Ak R DR [aE] c A2) λaF=>Ai (Al Ag .add aD aF A2) λaG=>Sb 5 f Au c λaH=>Ai (Ak R DR [aH] c A2) λaI=>Ai (Al Ag .add aG aI A2) λaJ=>Sb 7 f Au c λaK=>Ai (Ak R DR [aK] c A2) λaL=>Ai (Al Ag .add aJ aL A2) λaM=>Sb 64 e Ab c λaN=>Ai (Qa 1 Ab 1 [(0,1,aN)] A2) λaO=>Ai (Ak R D4 [aO] c A2) λaP=>Ai (Al Ag .add aM aP A2) λaQ=>j aQ c) (j i b)) λaR=>jn (λaS aT aU=>aR aS aT aU) λaV=>QC L R K aV L d ag (Aq 0) a
def PE:IP A' A':=λL R K i ih b c g d e a f=>Al Ab .lss a e λj=>A1 j (GI Ad d a Ag f λk=>Dk (E L) R b [c,k] f λl h=>Nh .not l λm=>A1 m (K (AV.tup []) h) (Al Ab .add a (Aq 1) λn=>ih b c g d e n h)) (i b c g d e a f)
def PD:IN A' A':=Ja z6N PE
def Gu:IP Ru A':=λL R K g ih h af a ag ah ai i=>Yk a i λj b=>Cg j 0 λk=>A1 k (jn (λl m n o p q r=>ih l m n o p q r) λs=>lV a b λc=>Cg c 0 λt=>Cg c 1 λu=>Bc Ae Ac b λd v=>DD Ac d u v λe=>DV 31 d Ad e λf=>Bi Ad f λw=>jn (λx y z aa ab ac ad=>s x y z aa ab ac ad) λae=>PD L R K ae L h t a f w (Aq 0) e) (g b)
def Gt:IN Ru A':=Ja z6N Gu
theorem NU:KU Gt Gu:=λ_ _ _ _ _=>rfl
def GC:I4:=λL R a0 a1 H K=>A9 Bh a1 H λa=>lO a H λb c=>jn (λd=>K (AV.tup []) d) λe=>Gt L R K e L a0 AV.dk b AV.dk AV.dk AV.dk c
def DH:IP Ru Sd:=λL R K g ih c d e a b=>Al Ab .lss a e λh=>A1 h (GI Ad c a Ag b λi=>Dk (E L) R d [i] b λj f=>A1 j (K a f) (Al Ab .add a (Aq 1) λk=>ih c d e k f)) (g b)
def DG:IN Ru Sd:=Ja rI DH
theorem Jf:KU DG DH:=λ_ _ _ _ _=>rfl
def DO:I4:=λL R a0 a1 H K=>jn (λa=>K (Aq (-1)) a) λb=>Bi Ad a0 λc=>jn (λd=>b d) λe=>DG L R K e L a0 a1 c (Aq 0) H
def Kd:Hw:=λL R a0 H K=>GO 83 L R a0 H K _
def Kc:Hw:=λL R a0 H K=>GO 84 L R a0 H K _
def Ke:Hw:=λL R a0 H K=>GO 85 L R a0 H K _
def IE:Hw:=λL R a0 H K=>GO 86 L R a0 H K _
def LW:I4:=λL R a0 a1 H K=>Mt 90 L R a0 a1 H K _
def S?:I4:=λL R a0 a1 H K=>Mt 91 L R a0 a1 H K _
def SP:I4:=λL R a0 a1 H K=>jn (λb c=>Al Ab .rem b a1 λd=>K d c) λa=>Al Ab .lss a0 (Aq 0) λe=>A1 e (Al Ab .add a0 (Aq 1) λf=>Nh .neg f λg=>a g H) (a a0 H)
def SK:I4:=λL R a0 a1 H K=>jn (λb c=>Al Ab .rem b a1 λd=>K d c) λa=>Al Ab .lss a0 (Aq 0) λe=>A1 e (Al Ab .add a0 (Aq 1) λf=>Nh .neg f λg=>a g H) (a a0 H)
def Fl:Y4N:=λL R a0 a1 a2 a3 H K=>q4N 97 L R a0 a1 a2 a3 H K _
def FD:Hw:=λL R a0 H K=>R.call Gh [UF,a0] H λa b=>K a b
def Ci:IP Ru TA:=λL R K e ih c a f=>Yk a f λg b=>Cg g 0 λh=>A1 h (lV a b λi=>Cg i 0 λj=>Dk (E L) R c [j] b λk d=>Nh .not k λl=>A1 l (K (AV.tup []) d) (ih c a d)) (e b)
def B8:IN Ru TA:=Ja z2N Ci
theorem F1:KU B8 Ci:=λ_ _ _ _ _=>rfl
def Cj:I4:=λL R a0 a1 H K=>A9 Bh a1 H λa=>lO a H λb c=>jn (λd=>K (AV.tup []) d) λe=>B8 L R K e L a0 b c
def Jj:Y3N:=λL R a0 a1 a2 H K=>q3N 112 L R a0 a1 a2 H K _
def PA:Hw:=λL R a0 H K=>GO 114 L R a0 H K _
def Hf:Hw:=λL R a0 H K=>GO 115 L R a0 H K _
def Lv:Hw:=λL R a0 H K=>GO 119 L R a0 H K _
def Mw:Hw:=λL R a0 H K=>GO 120 L R a0 H K _
def D6:Operand×Array Tmp×Code×Code:=Up (B8r) 0
def QQ:Hw:=λL R a0 H K=>Al Ab .lss a0 (Aq (-4611686018427387903)) λa=>EU a H (some (a0,H)) λi e=>EU a e (Al Ab .gtr i (Aq 4611686018427387903) (BE e)) λj f=>B0 a JR j λk=>A1 k (K (AV.tup [(Rw []),(Aq 10)]) f) (Bc E1 A5 f λb l=>jn (λm c=>A9 A5 m c λn=>fE n c λo=>K (AV.tup [o,(Aq 0)]) c) λp=>EE Ab AZ a0 λq=>Al AZ .shl q (AV.v (.int .u64 1)) λr=>Al Ab .shr a0 (AV.v (.int .u64 63)) λs=>EE Ab AZ s λt=>Al AZ .xor r t λu=>R.call We [u] l λg w=>jn (λx y=>p x y) λh=>dO R 33 g [(2,(Rw [])),(3,(Aq 0)),(4,b),(5,AV.dk),(6,AV.dk),(20,g),(21,AV.dk),(22,AV.dk),(23,AV.dk),(24,AV.dk),(25,AV.dk),(26,AV.dk),(27,AV.dk),(28,AV.dk),(29,AV.dk),(30,AV.dk)] (D6).2.1 (D6).2.2.1 (D6).2.2.2 w λz d=>ZV z (h b d) (K (AV.tup [(Rw []),(Aq 0)]) d) (λaa=>@Bool.rec (λ_=>Af) (none) (h b d) (Nat.beq aa 0)) (λ_=>none))
theorem YU(L:Nat)(R:Rt)(c2:AV)(c3:AV)(c4:AV)(c5:AV)(c6:AV)(c20:AV)(c21:AV)(c22:AV)(c23:AV)(c24:AV)(c25:AV)(c26:AV)(c27:AV)(c28:AV)(c29:AV)(c30:AV)(a0:AV)(a1:AV)(P:Hp->Ru->Af)(Q:Exit->Ru)(H:Hp):rdK (λcf=>Qy (E L) R cf) 33 [(2,c2),(3,c3),(4,c4),(5,c5),(6,c6),(20,c20),(21,c21),(22,c22),(23,c23),(24,c24),(25,c25),(26,c26),(27,c27),(28,c28),(29,c29),(30,c30)] (D6).2.1 [a0,a1] (D6).2.2.1 (D6).2.2.2 H P Q=P H λa=>jn (λd b=>A9 A5 c4 b λe=>F4 AI 1 AB 1 [(0,1,d)] b λf g=>DJ AI 1 AB A5 e f g λh i=>DD A5 c4 h i λj=>Q .normal j) λc=>Nh .not a1 λk=>A1 k (Al AB .or a0 (AV.v (.int .u8 128)) λl=>c l a) (c a0 a):=by kernel_rfl
def EK:I4:=λL R a0 a1 H K=>R.call HW [a0] H λj a=>Mv a0 λb=>DV 1 b A5 a λc=>DJ AI 1 AB Ag c a1 a λd e=>Mv a0 λf=>CC 1 f λg=>DD A5 g d e λh=>Bi Ag a1 λi=>K (AV.tup [i,(AV.v .nilIface)]) h
def Zg:Hw:=λL R a0 H K=>GO 125 L R a0 H K _
def L0:Hw:=λL R a0 H K=>GO 128 L R a0 H K _
def Xy:IP V8 fK:=λL R K h ih d e f g a b=>Al Ab .lss a g λi=>A1 i (GI Ei f a Aa b λj=>Dk (E L) R j [d] b λk c=>Mv k λl=>A9 Ab l c λm=>Ak R Bu [m] c λn=>Al Ag .add (Rw [32]) n λo=>Al Ag .add e o λp=>Al Ab .add a (Aq 1) λq=>ih d p f g q c) (h e b)
def Xx:IN V8 fK:=Ja z5N Xy
def My:Hw:=λL R a0 H K=>HT AF a0 H λb c=>Ai (Ak R Ge [] c A2) λe=>Ai (CC 0 b A2) λh=>Ai (A9 Ab h c A2) λf=>Ai (oJ .i64 f λm=>VU AY false e m c A2) λi=>DF (Bc BN AY c λv H=>some (v,H)) λg d=>DF (DD AY g i d λH=>some (AV.v undef,H)) λag a=>Qm (AN (Ak R Ge [] d A2) e) (Qm (AN (A9 Ab h d A2) f) (Qm (AN (oJ .i64 f λn=>VU AY false e n d A2) i) (DV 0 g Ag a λj=>DV 0 b Ab a λo=>Al Ab .eql o (Aq 1) λp=>A1 p (DV 3 b Ap a λq=>Ak R GR [q] a λk=>Cg k 0 λr=>Cg k 1 λah=>Al Ag .add j (Rw [32]) λs=>DV 1 b Au a λt=>Ak R Gk [t] a λu=>Al Ag .add s u λw=>Al Ag .add w (Rw [32]) λx=>Al Ag .add x r λy=>K y a) (jn (λz aa=>K z aa) λab=>DV 1 g Ei a λl=>Bi Ei l λac=>jn (λad ae=>ab ad ae) λaf=>Xx L R K af L b j l ac (Aq 0) a))))
def Em:IP Ru Sd:=λL R K h ih f c d a b=>A9 A5 c b λi=>Bi A5 i λj=>Al Ab .lss a j λk=>A1 k (Ai (A9 Ab d b A2) λl=>Ai (A9 A5 c b A2) λm=>Ai (GF A5 m (some a) none none A2) λn=>Ai (Bi A5 n A2) λo=>Ai (C! true l o A2) λg=>A9 A5 c b λp=>Al Ab .add a g λq=>Al Ab .add a g λr=>GF A5 p (some a) (some q) (some r) λs=>Dk (E L) R f [s] b λt e=>Nh .not t λu=>A1 u (K (AV.tup []) e) (A9 Ab d e λv=>Al Ab .add a v λw=>ih f c d w e)) (h b)
def El:IN Ru Sd:=Ja rI Em
theorem JV:KU El Em:=λ_ _ _ _ _=>rfl
def E3:Y3N:=λL R a0 a1 a2 H K=>jn (λa=>K (AV.tup []) a) λb=>El L R K b L a0 a1 a2 (Aq 0) H
def KM:IP V8 Sd:=λL R K f ih g b c h a=>Al Ab .lss c (Aq 64) λi=>A1 i (Ai (Al Ab .sub c (Aq 15) A2) λj=>Mf BB b j Ah a λd=>Ai (Al Ab .sub c (Aq 2) A2) λk=>Mf BB b k Ah a λe=>Ai (Al Ab .sub c (Aq 16) A2) λl=>Mf BB b l Ah a λm=>Ai (Qa 1 Ab 2 [(0,1,(Aq 7)),(1,1,(Aq 18))] A2) λn=>Ai (Ak R D2 [d,n] a A2) λo=>Ai (Al Ah .shr d (AV.v (.int .u64 3)) A2) λp=>Ai (Al Ah .xor o p A2) λq=>Ai (Al Ah .add m q A2) λr=>Ai (Al Ab .sub c (Aq 7) A2) λs=>Mf BB b s Ah a λt=>Ai (Al Ah .add r t A2) λu=>Ai (Qa 1 Ab 2 [(0,1,(Aq 17)),(1,1,(Aq 19))] A2) λw=>Ai (Ak R D2 [e,w] a A2) λx=>Ai (Al Ah .shr e (AV.v (.int .u64 10)) A2) λy=>Ai (Al Ah .xor x y A2) λz=>Ai (Al Ah .add u z A2) λaa=>Ai (Cy BB b c A2) λab=>DF (DD Ah ab aa a λH=>some (AV.v undef,H)) λae ac=>Al Ab .add c (Aq 1) λad=>ih g b ad h ac) (f b a)
def KK:IN V8 Sd:=Ja rI KM
theorem Vg:KU KK KM:=λ_ _ _ _ _=>rfl
def KL:IP TZ Sd:=λL R K e ih b d f a c=>Al Ab .lss a (Aq 16) λg=>A1 g (Ai (Al Ab .mul (Aq 4) a A2) λh=>Mf A5 b h AB c λi=>Ai (EE AB Ah i A2) λj=>Ai (Al Ah .shl j (AV.v (.int .u64 24)) A2) λk=>Ai (Al Ab .mul (Aq 4) a A2) λl=>Ai (Al Ab .add l (Aq 1) A2) λm=>Mf A5 b m AB c λn=>Ai (EE AB Ah n A2) λo=>Ai (Al Ah .shl o (AV.v (.int .u64 16)) A2) λp=>Ai (Al Ah .or k p A2) λq=>Ai (Al Ab .mul (Aq 4) a A2) λr=>Ai (Al Ab .add r (Aq 2) A2) λs=>Mf A5 b s AB c λt=>Ai (EE AB Ah t A2) λu=>Ai (Al Ah .shl u (AV.v (.int .u64 8)) A2) λw=>Ai (Al Ah .or q w A2) λx=>Ai (Al Ab .mul (Aq 4) a A2) λy=>Ai (Al Ab .add y (Aq 3) A2) λz=>Mf A5 b z AB c λaa=>Ai (EE AB Ah aa A2) λab=>Ai (Al Ah .or x ab A2) λac=>Ai (Cy BB d a A2) λad=>DF (DD Ah ad ac c λH=>some (AV.v undef,H)) λag ae=>Al Ab .add a (Aq 1) λaf=>ih b d f af ae) (e b d a c)
def KJ:IN TZ Sd:=Ja rI KL
theorem Vf:KU KJ KL:=λ_ _ _ _ _=>rfl
def L6:Hw:=λL R a0 H K=>Bc Cn BB H λd e=>jn (λf g h i=>jn (λa b=>A9 BB a b λj=>DD BB a j b λc=>A9 BB a c λk=>K k c) λl=>jn (λm n=>l m n) λo=>KK L R K o L f g (Aq 16) h i) λp=>jn (λq r s t=>p q r s t) λu=>KJ L R K u L a0 d AV.dk (Aq 0) e
def NY:IP V8 fK:=λL R K g ih c d e f b a=>Al Ab .lss b f λh=>A1 h (GI Ba e b Ab a λi=>Nh .neg i λj=>Ak R Fo [c,j] a λk=>Al Ah .xor d k λl=>Al Ab .add b (Aq 1) λm=>ih c l e f m a) (g d a)
def NX:IN V8 fK:=Ja z5N NY
theorem Yu:KU NX NY:=λ_ _ _ _ _=>rfl
def Py:I4:=λL R a0 a1 H K=>jn (λa b=>K a b) λc=>Bi Ba a1 λd=>jn (λe f=>c e f) λg=>NX L R K g L a0 (AV.v (.int .u32 0)) a1 d (Aq 0) H
def NQ:I4:=λL R a0 a1 H K=>Mt 133 L R a0 a1 H K _
def Lx:Y0N:=λL R H K=>q0N 134 L R H K _
def Pt:Hw:=λL R a0 H K=>GO 135 L R a0 H K _
def OW:IP Ru TA:=λL R K ai ih g c d=>DV 2 g A8 d λaj=>Bi A8 aj λak=>Al Ab .lss c ak λal=>A1 al (DV 2 g A8 d λam=>GI A8 am c BC d λan=>Bc AM BC d λb ao=>DD BC b an ao λh=>DV 1 b Au h λap=>Ak R DU [ap] h λaq=>Ai (Nh .not aq A2) λe=>EU e h (Ai (CC 1 b A2) (BE h)) λar k=>EU e k (Ai (A9 Au ar k A2) (BE k)) λau l=>EU e l (Ai (Ak R Kk [(Aq 0)] l A2) (BE l)) λav r=>EU e r (Ai (Ts Ox .eql au av A2) (BE r)) λaw s=>Ai (B0 e JR aw A2) λi=>EU i s (Ai (CC 0 b A2) (BE s)) λax m=>EU i m (Ai (A9 Ab ax m A2) (BE m)) λay t=>EU i t (Ai (Al Ab .lss ay (Aq 1) A2) (BE t)) λaz u=>Ai (B0 i JR az A2) λj=>EU j u (Ai (CC 0 b A2) (BE u)) λa0 n=>EU j n (Ai (A9 Ab a0 n A2) (BE n)) λa1 v=>EU j v (Ai (Al Ab .gtr a1 (Aq 1000000) A2) (BE v)) λa2 w=>Ai (B0 j JR a2 A2) λf=>EU f w (some (c,w)) λa3 x=>EU f x (Ai (Al Ab .gtr a3 (Aq 0) A2) (BE x)) λa4 y=>EU f y (some (a4,y)) λa z=>B3 a z (Ai (CC 2 g A2) (BE z)) λa5 o=>B3 a o (Ai (A9 A8 a5 o A2) (BE o)) λa6 aa=>B3 a aa (some (c,aa)) λa7 ab=>B3 a ab (Ai (Al Ab .sub a7 (Aq 1) A2) (BE ab)) λa8 ac=>B3 a ac (Ai (Cy A8 a6 a8 A2) (BE ac)) λa9 ad=>B3 a ad (Ai (CC 0 a9 A2) (BE ad)) λaA p=>B3 a p (Ai (A9 Ab aA p A2) (BE p)) λaB ae=>B3 a ae (Ai (CC 0 b A2) (BE ae)) λaC q=>B3 a q (Ai (A9 Ab aC q A2) (BE q)) λaD af=>B3 a af (Ai (Al Ab .geq aB aD A2) (BE af)) λaE ag=>EU f ag (Ai (B0 a aE EV A2) (BE ag)) λaF ah=>Ai (B0 f JR aF A2) λaG=>A1 aG (K EV ah) (Al Ab .add c (Aq 1) λaH=>ih g aH ah)) (ai d)
def OV:IN Ru TA:=Ja z2N OW
theorem YP:KU OV OW:=λ_ _ _ _ _=>rfl
def QV:Hw:=λL R a0 H K=>HT Dw a0 H λc a=>DV 0 c Au a λq=>Ak R DU [q] a λr=>DV 3 c Au a λs=>Ak R DU [s] a λt=>Ai (Nh .not r A2) λe=>EU e a (some (t,a)) λu j=>EU e j (Ai (Nh .not u A2) (BE j)) λv k=>Ai (B0 e JR v A2) λb=>EU b k (Ai (CC 3 c A2) (BE k)) λw f=>EU b f (Ai (A9 Au w f A2) (BE f)) λx g=>EU b g (Ai (Ak R Kk [(Aq 0)] g A2) (BE g)) λy h=>EU b h (Ai (Ak R NV [x,y] h A2) (BE h)) λz l=>EU b l (Ai (Al Ab .lss z (Aq 0) A2) (BE l)) λaa m=>Ai (B0 b JR aa A2) λd=>EU d m (Ai (CC 2 c A2) (BE m)) λab i=>EU d i (Ai (A9 A8 ab i A2) (BE i)) λac n=>EU d n (Ai (Bi A8 ac A2) (BE n)) λad o=>EU d o (Ai (Al Ab .gtr ad (Aq 64) A2) (BE o)) λae p=>Ai (B0 d JR ae A2) λaf=>A1 af (K EV p) (jn (λag=>K JR ag) λah=>jn (λai=>ah ai) λaj=>OV L R K aj L c (Aq 0) p)
def Pn:Y3N:=λL R a0 a1 a2 H K=>q3N 138 L R a0 a1 a2 H K _
def J1:IP TZ TZ:=λL R K e ih a c d b=>Al Ab .lss d c λf=>A1 f (Mf Ad a d Ag b λg=>Mf Ad a c Ag b λh=>Ai (Al Ag .eql g h A2) λi=>A1 i (Bi Ad a λj=>K (AV.tup [EV,j]) b) (Al Ab .add d (Aq 1) λk=>ih a c k b)) (e a c d b)
def Jz:IN TZ TZ:=Ja z3N J1
theorem ON:KU Jz J1:=λ_ _ _ _ _=>rfl
def J2:IP V8 TZ:=λL R K d ih a c aa b=>Bi Ad a λe=>Al Ab .lss c e λf=>A1 f (jn (λg h i j=>Al Ab .add h (Aq 1) λk=>ih g k i j) λl=>jn (λm n o p=>l m n o p) λq=>GI Ad a c Ag b λr=>Bi Ag r λs=>Al Ab .neq s (Aq 32) λt=>A1 t (Bi Ad a λu=>K (AV.tup [EV,u]) b) (jn (λv w x y=>q v w x y) λz=>Jz L R K z L a c (Aq 0) b)) (d a b)
def J0:IN V8 TZ:=Ja z3N J2
theorem OO:KU J0 J2:=λ_ _ _ _ _=>rfl
def Kq:Hw:=λL R a0 H K=>jn (λb c=>Bi Ad b λf=>Al Ab .geq f (Aq 1) λa=>B3 a c (some (b,c)) λg d=>B3 a d (Bi Ad g (BE d)) λh e=>B3 a e (Al Ab .leq h (Aq 6) (BE e)) λi j=>B0 a i EV λk=>Bi Ad b λl=>K (AV.tup [k,l]) j) λm=>jn (λn o=>m n o) λp=>J0 L R K p L a0 (Aq 0) AV.dk H
def QS:Hw:=λL R a0 H K=>GO 142 L R a0 H K _
def Li:IP V8 TZ:=λL R K f ih b d c a=>Bi Ad b λg=>Al Ab .lss c g λh=>A1 h (GI Ad b c Ag a λi=>Ak R LG [i] a λe=>Cg e 0 λj=>Cg e 1 λm=>Al Ag .add d j λk=>Al Ab .add c (Aq 1) λl=>ih b k l a) (f d a)
def OM:IN V8 TZ:=Ja z3N Li
theorem RH:KU OM Li:=λ_ _ _ _ _=>rfl
def MW:Hw:=λL R a0 H K=>jn (λa b=>K a b) λc=>jn (λd e=>c d e) λf=>OM L R K f L a0 (Rw []) (Aq 0) H
def QR:Hw:=λL R a0 H K=>GO 145 L R a0 H K _
def OS:IP TA Sd:=λL R K e ih b d f c a=>DV 2 b Ar a λg=>Bi Ar g λh=>Al Ab .lss c h λi=>A1 i (DV 2 b Ar a λj=>GI Ar j c AC a λk=>Ak R GT [k] a λl=>Al Ag .add d l λm=>Al Ag .add m (Rw [10]) λn=>Al Ab .add c (Aq 1) λo=>ih b n f o a) (e b d a)
def OQ:IN TA Sd:=Ja rI OS
theorem YN:KU OQ OS:=λ_ _ _ _ _=>rfl
def OR:IP TZ Sd:=λL R K f ih b d c g a=>DV 1 b Am a λh=>Bi Am h λi=>Al Ab .lss c i λj=>A1 j (DV 1 b Am a λk=>GI Am k c Ap a λl=>Ak R Hq [l] a λe=>Cg e 0 λm=>Cg e 1 λr=>Al Ag .add d (Rw [103,105,118,101,110,32]) λn=>Al Ag .add n m λo=>Al Ag .add o (Rw [10]) λp=>Al Ab .add c (Aq 1) λq=>ih b p q g a) (f b d c a)
def OP:IN TZ Sd:=Ja rI OR
theorem YM:KU OP OR:=λ_ _ _ _ _=>rfl
def QT:Hw:=λL R a0 H K=>HT BK a0 H λb a=>A9 AE b a λe=>Ak R Ev [e] a λf=>Nh .not f λg=>A1 g (K (AV.tup [(Rw []),(Aq 90)]) a) (DV 0 b Ab a λh=>Ak R B7 [h] a λi=>Al Ag .add (Rw [112,114,111,99,101,100,117,114,101,32]) i λj=>Al Ag .add j (Rw [10]) λk=>jn (λl m n o=>jn (λp q c=>DV 3 p Ap c λr=>Ak R Hq [r] c λd=>Cg d 0 λs=>Cg d 1 λah=>Al Ag .add q (Rw [111,117,116,112,117,116,32]) λt=>Al Ag .add t s λu=>Al Ag .add u (Rw [10]) λv=>K (AV.tup [v,(Aq 0)]) c) λw=>jn (λx y z=>w x y z) λaa=>OQ L R K aa L l m n (Aq 0) o) λab=>jn (λac ad ae af=>ab ac ad ae af) λag=>OP L R K ag L b k (Aq 0) AV.dk a)
def Hi:IP Ru TA:=λL R K e ih c a f=>Yk a f λg b=>Cg g 0 λh=>A1 h (lV a b λi=>Cg i 0 λj=>Dk (E L) R c [j] b λk d=>Nh .not k λl=>A1 l (K (AV.tup []) d) (ih c a d)) (e b)
def Hh:IN Ru TA:=Ja z2N Hi
def Hz:I4:=λL R a0 a1 H K=>A9 Fk a1 H λa=>lO a H λb c=>jn (λd=>K (AV.tup []) d) λe=>Hh L R K e L a0 b c
def sM:I4:=λL R a0 a1 H K=>Mt 151 L R a0 a1 H K _
def eO:Hw:=λL R a0 H K=>GO 152 L R a0 H K _
def xD:I4:=λL R a0 a1 H K=>Mt 158 L R a0 a1 H K _
def Lw:Y3N:=λL R a0 a1 a2 H K=>HT BK a0 H λav aw=>HT AF a1 aw λa y=>DV 0 a Ab y λax=>Ch AC [(0,1,ax)] λay=>Bc AF AC y λb az=>DD AC b ay az λc=>DV 0 a Ab c λd=>Al Ab .eql d (Aq 1) λa3=>A1 a3 (DV 1 a Au c λa4=>CC 1 b λa5=>DD Au a5 a4 c λz=>DV 3 a Ap z λa6=>CC 3 b λa7=>DD Ap a7 a6 z λe=>DV 1 a Au e λa8=>Ak R DU [a8] e λa9=>DV 3 a Ap e λaA=>Ak R DT [aA] e λaB=>A9 AC a e λaC=>A9 AC b e λaD=>Ts Jr .eql aC aD λaa=>B3 aa e (some (a9,e)) λaE ab=>B0 aa aE EV λac=>B3 ac ab (some (aB,ab)) λaF aG=>B0 ac aF EV λaH=>K (AV.tup [aH,EV]) aG) (Al Ab .eql d (Aq 2) λaI=>A1 aI (DV 23 a Ab c λaJ=>CC 23 b λaK=>DD Ab aK aJ c λm=>A9 AC a m λaL=>A9 AC b m λaM=>Ts Jr .eql aL aM λg=>Qg g m 23 a Ab λaN aO=>Qg g aO 1 av Am λaP ad=>B3 g ad (Bi Am aP (BE ad)) λaQ ae=>B3 g ae (Al Ab .sub aQ (Aq 1) (BE ae)) λaR n=>B3 g n (Ak R C5 [aN,(Aq 0),aR] n (BE n)) λaS aT=>B0 g aS EV λaU=>K (AV.tup [aU,EV]) aT) (jn (λaV f=>A1 aV (DV 24 a Ab f λaW=>CC 24 b λaX=>DD Ab aX aW f λaf=>DV 25 a Ab af λaY=>CC 25 b λaZ=>DD Ab aZ aY af λo=>A9 AC a o λba=>A9 AC b o λbb=>Ts Jr .eql ba bb λh=>Qg h o 24 a Ab λbc ag=>B3 h ag (some (a2,ag)) λbd ah=>B3 h ah (Al Ab .sub bd (Aq 1) (BE ah)) λbe p=>B3 h p (Ak R C5 [bc,(Aq 0),be] p (BE p)) λbf bg=>B0 h bf EV λi=>Qg i bg 25 a Ab λbh ai=>B3 i ai (some (a2,ai)) λbi aj=>B3 i aj (Al Ab .sub bi (Aq 1) (BE aj)) λbj q=>B3 i q (Ak R C5 [bh,(Aq 0),bj] q (BE q)) λbk bl=>B0 i bk EV λbm=>K (AV.tup [bm,JR]) bl) (Al Ab .eql d (Aq 7) λbn=>A1 bn (DV 24 a Ab f λbo=>CC 24 b λbp=>DD Ab bp bo f λak=>DV 23 a Ab ak λbq=>CC 23 b λbr=>DD Ab br bq ak λr=>A9 AC a r λbs=>A9 AC b r λbt=>Ts Jr .eql bs bt λj=>Qg j r 24 a Ab λbu al=>B3 j al (some (a2,al)) λbv am=>B3 j am (Al Ab .sub bv (Aq 1) (BE am)) λbw s=>B3 j s (Ak R C5 [bu,(Aq 0),bw] s (BE s)) λbx bz=>B0 j bx EV λt=>Qg t bz 23 a Ab λb0 u=>B3 t u (Ak R C5 [b0,(Aq (-4)),(Aq 4)] u (BE u)) λb1 b2=>B0 t b1 EV λv=>Qg v b2 23 a Ab λb3 an=>B3 v an (Al Ab .neq b3 (Aq 0) (BE an)) λb4 b5=>B0 v b4 EV λb6=>K (AV.tup [b6,JR]) b5) (Al Ab .eql d (Aq 8) λb7=>A1 b7 (DV 24 a Ab f λb8=>CC 24 b λb9=>DD Ab b9 b8 f λw=>A9 AC a w λbA=>A9 AC b w λbB=>Ts Jr .eql bA bB λk=>Qg k w 24 a Ab λbC ao=>B3 k ao (some (a2,ao)) λbD ap=>B3 k ap (Al Ab .sub bD (Aq 1) (BE ap)) λbE x=>B3 k x (Ak R C5 [bC,(Aq 0),bE] x (BE x)) λbF bG=>B0 k bF EV λbH=>K (AV.tup [bH,JR]) bG) (K (AV.tup [EV,EV]) f)))) λl=>Al Ab .eql d (Aq 3) λaq=>A1 aq (l aq c) (Al Ab .eql d (Aq 4) λar=>A1 ar (l ar c) (Al Ab .eql d (Aq 5) λau=>A1 au (l au c) (Al Ab .eql d (Aq 6) λbI=>l bI c)))))
def AP:Operand×Array Tmp×Code×Code:=Up (B8q) 0
def CI:I4:=λL R a0 a1 H K=>HT BP a0 H λa e=>jn (λf c=>A9 Ad f c λg=>K g c) λh=>jn (λi j=>h i j) λd=>dO R 13 a1 [(2,a),(4,UF),(5,AV.dk),(6,a1),(7,AV.dk),(8,AV.dk),(9,AV.dk),(10,AV.dk),(11,AV.dk)] (AP).2.1 (AP).2.2.1 (AP).2.2.2 e λk b=>ZV k (d a b) (K UF b) (λl=>@Bool.rec (λ_=>Af) (none) (d a b) (Nat.beq l 0)) (λ_=>none)
theorem Fs(L:Nat)(R:Rt)(c2:AV)(c4:AV)(c5:AV)(c6:AV)(c7:AV)(c8:AV)(c9:AV)(c10:AV)(c11:AV)(a0:AV)(P:Hp->Ru->Af)(Q:Exit->Ru)(H:Hp):rdK (λcf=>Qy (E L) R cf) 13 [(2,c2),(4,c4),(5,c5),(6,c6),(7,c7),(8,c8),(9,c9),(10,c10),(11,c11)] (AP).2.1 [a0] (AP).2.2.1 (AP).2.2.2 H P Q=P H λa=>A9 Ad c2 a λb=>F4 A0 1 Ag 1 [(0,1,a0)] a λc d=>DJ A0 1 Ag Ad b c d λe f=>DD Ad c2 e f λg=>Q .normal g:=by kernel_rfl
def Zf:Hw:=λL R a0 H K=>GO 173 L R a0 H K _
def KE:Hw:=λL R a0 H K=>GO 178 L R a0 H K _
def F6:IP Ru fK:=λL R K ae ih i d j k b e=>Al Ab .lss b k λaf=>A1 af (GI A8 j b BC e λag=>Bc AM BC e λl ah=>DD BC l ag ah λm=>A9 BC l m λai=>Dk (E L) R d [ai] m λf n=>Al Ab .lss f (Aq 1) λg=>EU g n (some (f,n)) λaj o=>EU g o (Al Ab .gtr aj (Aq 1000000) (BE o)) λak p=>B0 g JR ak λc=>EU c p (some (b,p)) λal q=>EU c q (Al Ab .gtr al (Aq 0) (BE q)) λam r=>EU c r (some (am,r)) λa s=>B3 a s (some (d,s)) λan t=>B3 a t (some (i,t)) λao u=>B3 a u (some (b,u)) λap w=>B3 a w (Al Ab .sub ap (Aq 1) (BE w)) λaq x=>B3 a x (C! false aq (Aq 0) (BE x)) λar y=>B3 a y (Cy A8 ao ar (BE y)) λau h=>B3 a h (A9 BC au h (BE h)) λav z=>B3 a z (Dk (E L) R an [av] z λv H=>some (v,H)) λaw aa=>B3 a aa (some (f,aa)) λax ab=>B3 a ab (Al Ab .geq aw ax (BE ab)) λay ac=>EU c ac (B0 a ay EV (BE ac)) λaz ad=>B0 c JR az λa0=>A1 a0 (K EV ad) (Al Ab .add b (Aq 1) λa1=>ih i d j k a1 ad)) (ae e)
def F5:IN Ru fK:=Ja z5N F6
theorem Mg:KU F5 F6:=λ_ _ _ _ _=>rfl
def FM:I4:=λL R a0 a1 H K=>jn (λa=>K JR a) λb=>Bi A8 a0 λc=>jn (λd=>b d) λe=>F5 L R K e L a0 a1 a0 c (Aq 0) H
def NT:Hw:=λL R a0 H K=>GO 182 L R a0 H K _
def CW:I4:=λL R a0 a1 H K=>Mt 183 L R a0 a1 H K _
def Hg:Hw:=λL R a0 H K=>Ak R E8 [a0] H λm=>R.call Gc [m] H λn c=>Bi Ad a0 λo=>Ak R Eh [o,(Aq 1),(Aq 6)] c λb=>B3 b c (some (a0,c)) λp e=>B3 b e (some ((AV.fn (.func Db) [] []),e)) λq d=>B3 b d (Ak R C4 [p,q] d (BE d)) λr f=>B3 b f (Nh .not r (BE f)) λs g=>B0 b s EV λa=>B3 a g (some (n,g)) λt h=>B3 a h (R.call Dd [t] h λv H=>some (v,H)) λu i=>B3 a i (Bi Ad u (BE i)) λw j=>B3 a j (some (a0,j)) λx k=>B3 a k (Bi Ad x (BE k)) λy l=>B3 a l (Al Ab .eql w y (BE l)) λz aa=>B0 a z EV λab=>K ab aa
def Dz:I4:=λL R a0 a1 H K=>Mt 190 L R a0 a1 H K _
def QP:Hw:=λL R a0 H K=>GO 192 L R a0 H K _
def Fw:Hw:=λL R a0 H K=>Mv a0 λa=>DV 0 a BA H λb=>Yr BA Bl .eql b (AV.v (.pointer none)) λc=>A1 c (yT Bl a0 H λd=>yP V' Dq d H λe=>Mv a0 λf=>CC 0 f λg=>DD BA g e H λh=>K (AV.tup []) h) (Mv a0 λi=>DV 0 i BA H λj=>Yr BA Bl .neq j a0 λk=>A1 k (none) (K (AV.tup []) H))
def K8:IP TA fK:=λL R K j ih d b e f a c=>Al Ab .lss a f λk=>A1 k (GI Ar e a AC c λl=>Bc AF AC c λg m=>DD AC g l m λh=>A9 AC g h λn=>R.call GD [b,n] h λo i=>Nh .not o λp=>A1 p (K (AV.tup [UF,a,(Aq 90)]) i) (Al Ab .add a (Aq 1) λq=>ih d b e f q i)) (j d b c)
def K7:IN TA fK:=Ja z5N K8
theorem Uz:KU K7 K8:=λ_ _ _ _ _=>rfl
def L2:Hw:=λL R a0 H K=>HT BK a0 H λa k=>DV 0 a Ab k λw=>Al Ab .lss w (Aq 1) λg=>Tg g k 0 a Ab λx l=>EU g l (Al Ab .gtr x (Aq 1000000) (BE l)) λy z=>B0 g JR y λc=>Tg c z 1 a Am λaa m=>EU c m (Bi Am aa (BE m)) λab n=>EU c n (Al Ab .gtr ab (Aq 6) (BE n)) λac ad=>B0 c JR ac λd=>Tg d ad 1 a Am λae o=>EU d o (some ((AV.fn (.func ER) [] []),o)) λaf h=>EU d h (Ak R Cm [ae,af] h (BE h)) λag ah=>B0 d JR ag λe=>Tg e ah 2 a Ar λai p=>EU e p (Bi Ar ai (BE p)) λaj q=>EU e q (Al Ab .lss aj (Aq 1) (BE q)) λak al=>B0 e JR ak λf=>Tg f al 2 a Ar λam r=>EU f r (Bi Ar am (BE r)) λan s=>EU f s (Al Ab .gtr an (Aq 40) (BE s)) λao i=>B0 f JR ao λap=>A1 ap (K (AV.tup [UF,(Aq (-1)),(Aq 90)]) i) (DV 1 a Am i λaq=>R.call LI [aq] i λar t=>jn (λu j b=>Ai (Mv j A2) λau=>Sb 2 au Am b λav=>Ai (Mv j A2) λaw=>Sb 2 aw Am b λax=>Ai (Bi Am ax A2) λay=>Ai (Al Ab .sub ay (Aq 1) A2) λaz=>Mf Am av az Ap b λa1=>Sb 3 u Ap b λa2=>Ai (Ts Jq .neq a1 a2 A2) λa3=>A1 a3 (Sb 2 u Ar b λa4=>Ai (Bi Ar a4 A2) λa5=>K (AV.tup [UF,a5,(Aq 90)]) b) (Mv j λa6=>DV 2 a6 Am b λa7=>K (AV.tup [a7,(Aq 0),(Aq 0)]) b)) λa8=>DV 2 a Ar t λv=>Bi Ar v λa9=>jn (λaA aB aC=>a8 aA aB aC) λaD=>K7 L R K aD L a ar v a9 (Aq 0) t)
def Hd:I4:=λL R a0 a1 H K=>Mt 198 L R a0 a1 H K _
def nV:Hw:=λL R a0 H K=>GO 200 L R a0 H K _
def eK:I4:=λL R a0 a1 H K=>Mt 201 L R a0 a1 H K _
def OU:IP TA TZ:=λL R K n ih b e c a=>DV 2 b Ar a λo=>Bi Ar o λp=>Al Ab .lss c p λq=>A1 q (Ai (A9 AE b a A2) λf=>Ai (CC 2 b A2) λj=>Ai (A9 Ar j a A2) λk=>Ai (Cy Ar k c A2) λl=>Ai (A9 AC l a A2) λg=>Ai (Ak R BW [f,g,c,e] a A2) λh=>Ai (Cg h 0 A2) λr=>Ai (Cg h 1 A2) λs=>DF (Bc Ax Ap a λv H=>some (v,H)) λm d=>DF (DD Ap m r d λH=>some (AV.v undef,H)) λab i=>Qm (AN (A9 AE b d A2) f) (Qm (AN (A9 Ar j d A2) k) (Qm (AN (A9 AC l d A2) g) (Qm (AN (Ak R BW [f,g,c,e] d A2) h) (Al Ab .neq s (Aq 0) λt=>A1 t (K (AV.tup [UF,c,(Aq 90)]) i) (A9 Ap m i λu=>F4 Ax 20 Ap 1 [(0,20,u)] i λw x=>DJ Ax 20 Ap Am e w x λy z=>Al Ab .add c (Aq 1) λaa=>ih b y aa z)))))) (n b e a)
def OT:IN TA TZ:=Ja z3N OU
theorem YO:KU OT OU:=λ_ _ _ _ _=>rfl
def QU:Hw:=λL R a0 H K=>HT BK a0 H λd b=>A9 AE d b λg=>Ak R XA4 [g] b λe=>Cg e 0 λh=>Cg e 1 λv=>Nh .not h λi=>A1 i (K (AV.tup [UF,(Aq (-1)),(Aq 90)]) b) (jn (λf c a=>Ai (Bi Am c A2) λj=>Ai (Al Ab .sub j (Aq 1) A2) λk=>Mf Am c k Ap a λl=>Sb 3 f Ap a λm=>Ai (Ts Jq .neq l m A2) λn=>A1 n (Sb 2 f Ar a λo=>Ai (Bi Ar o A2) λp=>K (AV.tup [UF,p,(Aq 90)]) a) (K (AV.tup [c,(Aq 0),(Aq 0)]) a)) λq=>jn (λr s t=>q r s t) λu=>OT L R K u L d UF (Aq 0) b)
def nW:Hw:=λL R a0 H K=>GO 209 L R a0 H K _
def Ly:Hw:=λL R a0 H K=>GO 211 L R a0 H K _
def SO:Hw:=λL R a0 H K=>GO 213 L R a0 H K _
def oA:Hw:=λL R a0 H K=>GO 214 L R a0 H K _
def eP:I4:=λL R a0 a1 H K=>Mt 215 L R a0 a1 H K _
def xF:I4:=λL R a0 a1 H K=>Mt 217 L R a0 a1 H K _
def xG:I4:=λL R a0 a1 H K=>Mt 218 L R a0 a1 H K _
def sO:I4:=λL R a0 a1 H K=>Mt 219 L R a0 a1 H K _
def xE:I4:=λL R a0 a1 H K=>Mt 221 L R a0 a1 H K _
def Pp:Y3N:=λL R a0 a1 a2 H K=>q3N 222 L R a0 a1 a2 H K _
def eU:Hw:=λL R a0 H K=>GO 236 L R a0 H K _
def XJ:I4:=λL R a0 a1 H K=>Mt 237 L R a0 a1 H K _
def oD:I4:=λL R a0 a1 H K=>Mt 238 L R a0 a1 H K _
def oE:I4:=λL R a0 a1 H K=>Mt 239 L R a0 a1 H K _
def Do:IP Ru Sd:=λL R K g ih c d e a b=>Al Ab .lss a e λh=>A1 h (GI A8 c a BC b λi=>Dk (E L) R d [i] b λj f=>A1 j (K a f) (Al Ab .add a (Aq 1) λk=>ih c d e k f)) (g b)
def Dn:IN Ru Sd:=Ja rI Do
theorem XA3:KU Dn Do:=λ_ _ _ _ _=>rfl
def Du:I4:=λL R a0 a1 H K=>jn (λa=>K (Aq (-1)) a) λb=>Bi A8 a0 λc=>jn (λd=>b d) λe=>Dn L R K e L a0 a1 c (Aq 0) H
def FL:Hw:=λL R a0 H K=>GO 243 L R a0 H K _
def E2:Hw:=λL R a0 H K=>GO 244 L R a0 H K _
def Kz:IP TA Sd:=λL R K g ih e d b c a=>Bi Ad b λh=>Al Ab .lss c h λi=>A1 i (jn (λj k=>Al Ab .add c (Aq 1) λl=>ih e j b l k) λm=>jn (λn o=>m n o) λf=>Mf Ad b c Ag a λp=>Ai (Al Ab .sub c (Aq 1) A2) λq=>Mf Ad b q Ag a λr=>Ai (Al Ag .neq p r A2) λs=>A1 s (GI Ad b c Ag a λt=>Cy Ad e d λu=>DD Ag u t a λv=>Al Ab .add d (Aq 1) λw=>f w v) (f d a)) (g e d a)
def Ky:IN TA Sd:=Ja rI Kz
def Ec:IP V8 Sd:=λL R K f ih a b g h c=>Bi Ad a λi=>Al Ab .lss b i λj=>A1 j (Mf Ad a b Ag c λk=>Ai (Al Ab .sub b (Aq 1) A2) λl=>Mf Ad a l Ag c λm=>Ai (Al Ag .eql k m A2) λn=>A1 n (GF Ad a (some b) none none λo=>jn (λd e p=>GF Ad d (some e) none none λq=>A0j 1 Ag q p λr=>GF Ad d none (some e) none λs=>K s r) λt=>jn (λu v w=>t u v w) λx=>Ky L R K x L a b o (Aq 1) c) (Al Ab .add b (Aq 1) λy=>ih a y g h c)) (f a c)
def Eb:IN V8 Sd:=Ja rI Ec
theorem JC:KU Eb Ec:=λ_ _ _ _ _=>rfl
def En:Hw:=λL R a0 H K=>Bi Ad a0 λa=>Al Ab .lss a (Aq 2) λb=>A1 b (K a0 H) (jn (λc d=>K c d) λe=>jn (λf g=>e f g) λh=>Eb L R K h L a0 (Aq 1) AV.dk AV.dk H)
def Kw(L:Nat)(R:Rt)(K:KV)(ih:TA):TA:=λd a b=>A9 AZ a b λh=>Al AZ .lss h (AV.v (.int .u64 128)) λe=>A9 AZ a b λi=>Al AZ .and i (AV.v (.int .u64 127)) λj=>EE AZ AB j λk=>Dk (E L) R d [k,e] b λl f=>Nh .not l λg=>EU g f (some (e,f)) λm c=>B0 g JR m λn=>A1 n (K (AV.tup []) c) (A9 AZ a c λo=>Al AZ .shr o (AV.v (.int .u64 7)) λp=>DD AZ a p c λq=>ih d a q)
def HY(L:Nat)(R:Rt)(K:KV)(n:Nat):TA:=lpN z2N (Kw L R K) n
theorem Ug(L:Nat)(R:Rt)(K:KV)(n:Nat):HY L R K (n+1)=Kw L R K (HY L R K n):=rfl
def Lu:I4:=λL R a0 a1 H K=>HY L R K L a0 a1 H
def ID:Hw:=λL R a0 H K=>GO 252 L R a0 H K _
def CV:I4:=λL R a0 a1 H K=>Mt 253 L R a0 a1 H K _
def Lz:Hw:=λL R a0 H K=>GO 254 L R a0 H K _
def GB:I4:=λL R a0 a1 H K=>HT AF a1 H λe b=>Ai (Mv a0 A2) λx=>Ai (CC 0 x A2) λn=>Ai (A9 CE n b A2) λf=>Ai (CC 0 e A2) λo=>Ai (A9 Ab o b A2) λg=>Ai (oJ .i64 g λy=>VU AY true f y b A2) λh=>Ai (Cg h 0 A2) λz=>Ai (Cg h 1 A2) λaa=>DF (Bc BN AY b λv H=>some (v,H)) λi c=>DF (DD AY i z c λH=>some (AV.v undef,H)) λaz p=>Qm (AN (A9 CE n c A2) f) (Qm (AN (A9 Ab o c A2) g) (Qm (AN (oJ .i64 g λab=>VU AY true f ab c A2) h) (Nh .not aa λa=>EU a p (some (a0,p)) λac j=>EU a j (A9 AY i j (BE j)) λad k=>EU a k (A9 AC e k (BE k)) λae l=>EU a l (Ak R Bv [ac,ad,ae] l (BE l)) λaf q=>EU a q (Nh .not af (BE q)) λag d=>B0 a JR ag λah=>A1 ah (K EV d) (DV 2 i Aa d λai=>A9 AC e d λaj=>Dk (E L) R ai [a0,aj] d λr ak=>Cg r 0 λal=>Cg r 1 λam=>Bc Ax Ap ak λs an=>DD Ap s al an λm=>Ai (Mv a0 A2) λao=>Ai (CC 2 ao A2) λt=>Ai (A9 Am t m A2) λu=>Ai (A9 Ap s m A2) λap=>DF (F4 Ax 20 Ap 1 [(0,20,ap)] m λv H=>some (v,H)) λaq w=>DF (DJ Ax 20 Ap Am u aq w λv H=>some (v,H)) λar au=>Ai (Mv a0 A2) λav=>Ai (CC 2 av A2) λaw=>DF (DD Am aw ar au λH=>some (AV.v undef,H)) λa2 ax=>Qm (AN (A9 Am t w A2) u) (Al Ab .eql am (Aq 0) λay=>K ay ax)))))
def EZ:I4:=λL R a0 a1 H K=>Mt 258 L R a0 a1 H K _
def GA:I4:=λL R a0 a1 H K=>Mt 261 L R a0 a1 H K _
def E4:I4:=λL R a0 a1 H K=>Mt 262 L R a0 a1 H K _
def Fy:I4:=λL R a0 a1 H K=>Mt 263 L R a0 a1 H K _
def EY:I4:=λL R a0 a1 H K=>Mt 264 L R a0 a1 H K _
def FY:I4:=λL R a0 a1 H K=>HT AF a1 H λb l=>Bc Ax Ap l λc f=>DV 23 b Ab f λm=>Al Ab .eql m (Aq 0) λd=>Tg d f 23 b Ab λn g=>EU d g (Al Ab .lss n (Aq (-4)) (BE g)) λo p=>B0 d JR o λe=>Tg e p 23 b Ab λq h=>EU e h (Al Ab .gtr q (Aq 4) (BE h)) λr a=>B0 e JR r λs=>A1 s (Ch Ap [] λt=>DD Ap c t a λi=>A9 Ap c i λu=>K (AV.tup [u,(Aq 90)]) i) (Ai (Mv a0 A2) λw=>Sb 2 w Am a λx=>Sb 24 b Ab a λy=>Mf Am x y Ap a λz=>Sb 23 b Ab a λaa=>Ai (Ch DM [(0,1,aa),(1,1,(Aq 1))] A2) λab=>Ai (Ak R PK [z,ab] a A2) λj=>Ai (Cg j 0 A2) λac=>Ai (Cg j 1 A2) λad=>DF (DD Ap c ac a λH=>some (AV.v undef,H)) λaf k=>A9 Ap c k λae=>K (AV.tup [ae,ad]) k)
def xC:I4:=λL R a0 a1 H K=>Mt 267 L R a0 a1 H K _
def jZ:Hw:=λL R a0 H K=>GO 268 L R a0 H K _
def NI:IP V8 TA:=λL R K d ih b c a=>DV 1 b Am a λe=>Bi Am e λf=>Al Ab .lss c f λg=>A1 g (DV 1 b Am a λh=>GI Am h c Ap a λi=>Ak R DT [i] a λj=>Nh .not j λk=>A1 k (Sb 2 b Ar a λl=>Ai (Bi Ar l A2) λm=>Ai (Al Ab .gtr m (Aq 0) A2) λn=>K (AV.tup [EV,n]) a) (Al Ab .add c (Aq 1) λo=>ih b o a)) (d b a)
def NH:IN V8 TA:=Ja z2N NI
theorem Xu:KU NH NI:=λ_ _ _ _ _=>rfl
def Pq:Hw:=λL R a0 H K=>HT BK a0 H λm n=>jn (λc d=>Sb 0 c Ab d λo=>Ai (Ak R C5 [o,(Aq 1),(Aq 1000000)] d A2) λa=>B3 a d (Ai (CC 1 c A2) (BE d)) λp e=>B3 a e (Ai (A9 Am p e A2) (BE e)) λq h=>B3 a h (Ai (Bi Am q A2) (BE h)) λr i=>B3 a i (Ai (Al Ab .leq r (Aq 6) A2) (BE i)) λs j=>Ai (B0 a s EV A2) λb=>B3 b j (Ai (CC 2 c A2) (BE j)) λt f=>B3 b f (Ai (A9 Ar t f A2) (BE f)) λu k=>B3 b k (Ai (Bi Ar u A2) (BE k)) λv g=>B3 b g (Ai (Ak R C5 [v,(Aq 1),(Aq 40)] g A2) (BE g)) λw l=>Ai (B0 b w EV A2) λx=>Sb 2 c Ar l λy=>Ai (Bi Ar y A2) λz=>Ai (Al Ab .gtr z (Aq 0) A2) λaa=>K (AV.tup [x,aa]) l) λab=>jn (λac ad=>ab ac ad) λae=>NH L R K ae L m (Aq 0) n
def kB:Hw:=λL R a0 H K=>GO 273 L R a0 H K _
def nY:I4:=λL R a0 a1 H K=>Mt 274 L R a0 a1 H K _
def eM:I4:=λL R a0 a1 H K=>Mt 276 L R a0 a1 H K _
def eN:I4:=λL R a0 a1 H K=>Mt 277 L R a0 a1 H K _
end
section
attribute [local irreducible] DF Ai A1 Bc DJ qT fE Qa Go.Abs.Al HT F4 Ch A0j EE zD lV Ts Yr Go.Abs.Cg CC lT Cy Yp A9 Bi VU zA qK C! KR VT eMk Yk yT lO yS oM GF DD yP A2T A01 Go.Abs.Nh gdV jn oJ Nt Mv Qm ZV B0 rdK Up dO AN Ak Sk undef UInt8.ofNat
def nZ:I4:=λL R a0 a1 H K=>Mt 279 L R a0 a1 H K _
def nX:I4:=λL R a0 a1 H K=>Mt 280 L R a0 a1 H K _
def XH:Hw:=λL R a0 H K=>GO 285 L R a0 H K _
def kE:I4:=λL R a0 a1 H K=>Mt 286 L R a0 a1 H K _
def fQ:Operand×Array Tmp×Code×Code:=Up (B8o) 0
def QY:I4:=λL R a0 a1 H K=>Mt 287 L R a0 a1 H K _
def nJ:Operand×Array Tmp×Code×Code:=Up (B8n) 0
def TK:I4:=λL R a0 a1 H K=>Mt 288 L R a0 a1 H K _
def nI:Operand×Array Tmp×Code×Code:=Up (B8m) 0
def TJ:Hw:=λL R a0 H K=>GO 289 L R a0 H K _
def SU:I4:=λL R a0 a1 H K=>Mt 292 L R a0 a1 H K _
def oC:I4:=λL R a0 a1 H K=>Mt 293 L R a0 a1 H K _
def Dy:IP Ru Sd:=λL R K g ih c d e a b=>Al Ab .lss a e λh=>A1 h (GI Ad d a Ag b λi=>Dk (E L) R c [i] b λj f=>Nh .not j λk=>A1 k (K (AV.tup []) f) (Al Ab .add a (Aq 1) λl=>ih c d e l f)) (g b)
def Dx:IN Ru Sd:=Ja rI Dy
theorem I6:KU Dx Dy:=λ_ _ _ _ _=>rfl
def D7:I4:=λL R a0 a1 H K=>A9 Ad a1 H λa=>Bi Ad a λb=>jn (λc=>K (AV.tup []) c) λd=>Dx L R K d L a0 a b (Aq 0) H
def Dm:IP Ru Sd:=λL R K g ih c d e a b=>Al Ab .lss a e λh=>A1 h (GI Am c a Ap b λi=>Dk (E L) R d [i] b λj f=>A1 j (K a f) (Al Ab .add a (Aq 1) λk=>ih c d e k f)) (g b)
def Dl:IN Ru Sd:=Ja rI Dm
theorem Ic:KU Dl Dm:=λ_ _ _ _ _=>rfl
def Dt:I4:=λL R a0 a1 H K=>jn (λa=>K (Aq (-1)) a) λb=>Bi Am a0 λc=>jn (λd=>b d) λe=>Dl L R K e L a0 a1 c (Aq 0) H
def sN:Hw:=λL R a0 H K=>GO 312 L R a0 H K _
def eT:Hw:=λL R a0 H K=>GO 316 L R a0 H K _
def JE:Hw:=λL R a0 H K=>GO 318 L R a0 H K _
def QX:Hw:=λL R a0 H K=>GO 319 L R a0 H K _
def VM:I4:=λL R a0 a1 H K=>Mt 320 L R a0 a1 H K _
def Qe:Y3N:=λL R a0 a1 a2 H K=>Ai (A9 Aa a1 H A2) λc=>Ai (Al Ab .add a0 (Aq 1) A2) λd=>DF (Dk (E L) R c [d] H λv H=>some (v,H)) λe a=>Ai (A9 Ba a2 a A2) λb=>Ai (Ak R Rk [e,b] a A2) λf=>Ai (Al Ab .gtr f (Aq 0) A2) λg=>Qm (AN (A9 Ba a2 H A2) b) (K g a)
def MI:IP V8 fK:=λL R K m ih f g h i b j=>Al Ab .lss b f λc=>EU c j (some (g,j)) λn k=>EU c k (Al Ab .neq n (Aq 0) (BE k)) λo l=>B0 c JR o λp=>A1 p (Dk (E L) R h [b] l λq d=>Al Ab .add q g λa=>jn (λr s t=>F4 Fh 1 Ab 1 [(0,1,s)] t λu v=>DJ Fh 1 Ab Ba i u v λw x=>Al Ab .add b (Aq 1) λy=>ih f r h w y x) λe=>Al Ab .lss a (Aq 0) λz=>A1 z (Al Ab .add a (Aq 10000) λaa=>e (Aq (-1)) aa d) (Al Ab .geq a (Aq 10000) λab=>A1 ab (Al Ab .quo a (Aq 10000) λac=>Al Ab .rem a (Aq 10000) λad=>e ac ad d) (e (Aq 0) a d))) (m i l)
def MH:IN V8 fK:=Ja z5N MI
def Nr:Y3N:=λL R a0 a1 a2 H K=>Al Ab .add a0 (Aq 1) λa=>eMk Fh 1 Ab (Aq 0) a H λb c=>jn (λd e=>K d e) λf=>jn (λg h=>f g h) λi=>MH L R K i L a0 a1 a2 b (Aq 0) c
def VN:I4:=λL R a0 a1 H K=>Mt 326 L R a0 a1 H K _
def Px:Y3N:=λL R a0 a1 a2 H K=>q3N 327 L R a0 a1 a2 H K _
def eS:I4:=λL R a0 a1 H K=>Mt 328 L R a0 a1 H K _
def XI:Hw:=λL R a0 H K=>GO 329 L R a0 H K _
def Ig:IP Ru TZ:=λL R K f ih c d a b=>Al Ab .geq a (Aq 0) λg=>A1 g (A9 Ba d b λh=>GI Ba h a Ab b λi=>Dk (E L) R c [a,i] b λj e=>Nh .not j λk=>A1 k (K (AV.tup []) e) (Al Ab .sub a (Aq 1) λl=>ih c d l e)) (f b)
def Ie:IN Ru TZ:=Ja z3N Ig
def Iw:I4:=λL R a0 a1 H K=>A9 Ba a1 H λa=>Bi Ba a λb=>Al Ab .sub b (Aq 1) λc=>jn (λd=>K (AV.tup []) d) λe=>Ie L R K e L a0 a1 c H
def RO:Y3N:=λL R a0 a1 a2 H K=>q3N 358 L R a0 a1 a2 H K _
def Qd:Y3N:=λL R a0 a1 a2 H K=>q3N 361 L R a0 a1 a2 H K _
def UM:Y4N:=λL R a0 a1 a2 a3 H K=>Mv a0 λb=>DV 0 b Sn H λc=>A1 c (K (Rw []) H) (Dk (E L) R a1 [a2,a3] H λa d=>Cg a 0 λe=>Cg a 1 λf=>Al Ab .neq f (Aq 0) λg=>Mv a0 λh=>CC 0 h λi=>DD Sn i g d λj=>K e j)
def Pv:Y3N:=λL R a0 a1 a2 H K=>q3N 379 L R a0 a1 a2 H K _
def Mz:I4:=λL R a0 a1 H K=>Mt 389 L R a0 a1 H K _
end
end Go.Proofs
end
noncomputable section
namespace Go.Abs
open Go.RowKit
section
variable{K:K2}{q:Bool}{aZ bd:Code}{H:Hp}{N e m p r s:Nat}{to:Option (Option Code)}{x:Row}{i t:TI}{α:Type}
def M?:∀(l:List α)(k:Nat)(a:α),k<l.length->splice l k [a]=l.set k a:=by
 intro l
 induction l with
 |nil=>intro k a h;simp at h
 |cons b l ih=>
  intro k a h;cases k with
  |zero=>simp[splice]
  |succ k=>
   have:=ih k a (by simpa using h);simp only[splice,List.length_singleton]at this⊢;simp[this]
def Mp(l vs:List α)(h:vs.length=l.length):splice l 0 vs=vs:=by simp[splice,h]
def AW{ty:Nat}{cs:Is}{K:KV}(hz:i.zero=.agg cs):Bc ty i H K=K (.ptr (Ay H) 0 0) ((Ay H,.cells true ty cs)::H):=by
 unfold Bc;rw[hz,CH,BQ];rfl
def tW{ty:Nat}{v:Value}{K:KV}(h1:AV.one (.v v)=true):HT ty (.v v) H K=K (.ptr (Ay H) 0 0) ((Ay H,.cells true ty [.v v])::H):=by
 unfold HT;rw[CH,FV,BQ];have:(Br (.v v)).all AV.one=true:=by simp[Br,h1]
 rw[this];rfl
def B4Z{ty n:Nat}{cs:Is}{K:KV}:HT ty (.list n cs) H K=K (.ptr (Ay H) 0 0) ((Ay H,.cells true ty [.list n cs])::H):=by
 unfold HT;rw[CH,FV,BQ];rfl
def EM{ty:Nat}{cs:Is}{K:KV}(h1:cs.all AV.one=true):HT ty (.agg cs) H K=K (.ptr (Ay H) 0 0) ((Ay H,.cells true ty cs)::H):=by
 unfold HT;rw[CH,FV,BQ];have:(Br (.agg cs)).all AV.one=true:=h1;rw[this];rfl
def A4{cs:Is}(h:Ao H r=some x):Ao (upd H r (.cells q e cs)) r=some (.cells q e cs):=by
 rw[Et h];rfl
def D9{cs:Is}{v:AV}{K:Ru}(d:Ao H s=some (.cells q e cs))(f:p<cs.length)(hz:i.size=1)(hv:Br v=[v])(h1:AV.one v=true):DD i (.ptr s p 0) v H K=K (upd H s (.cells q e (cs.set p v))):=by
 have c:DD i (.ptr s p 0) v H K=IZ H s λx=>iV x λq e cs=>Gy v λvs=>HB vs 0 λn=>ck (Nat.beq n i.size) (ck (Qb vs) (D8 (Nat.add p 0) vs cs λa=>XA5 H s (.cells q e a) K)):=rfl;rw[c,BO d];show Gy v _=_;rw[CH,hv,Cz,hz,FV];have:[v].all AV.one=true:=by simp[h1]
 rw[this];show D8 p [v] cs _=_;rw[Ii _ _ _ _ (by simp;omega),M? _ _ _ f,CX]
def Bx{cs vs:Is}{K:Ru}(f:Ao H s=some (.cells q e cs))(c:vs.length=cs.length)(hz:i.size=cs.length)(h1:vs.all AV.one=true):DD i (.ptr s 0 0) (.agg vs) H K=K (upd H s (.cells q e vs)):=by
 have d:DD i (.ptr s 0 0) (.agg vs) H K=IZ H s λx=>iV x λq e cs=>Gy (.agg vs) λvs=>HB vs 0 λn=>ck (Nat.beq n i.size) (ck (Qb vs) (D8 0 vs cs λa=>XA5 H s (.cells q e a) K)):=rfl;rw[d,BO f];show(Gy (.agg vs) λvs=>HB vs 0 λn=>ck (Nat.beq n i.size) (ck (Qb vs) (D8 0 vs cs λa=>XA5 H s (.cells q e a) K)))=_;have hc:Br (.agg vs)=vs:=rfl;rw[CH,hc,Cz,hz,FV,h1,c,Le,tB];show D8 0 vs cs _=_;rw[Ii _ _ _ _ (by omega),Mp _ _ c,CX]
def AR{cs:Is}(h:t.d.isAgg=true)(hz:t.size=cs.length)(a:Ao H r=some (.cells q e cs)):A9 t (.ptr r 0 0) H K=K (.agg cs):=by
 have:A9 t (.ptr r 0 0) H K=IZ H r λx=>KY x λ_ cs=>@Bool.rec (λ_=>Af) (hdK (CL 0 cs) K) (Fb t.size (CL 0 cs) λc=>K (.agg c)) t.d.isAgg:=rfl;rw[this,h,BO a];show Fb t.size (CL 0 cs) _=_;rw[Cs,l1n,hz,MK _ _ _ (by omega),mM]
def AH{cs:Is}(h:t.d.isAgg=false)(f:Ao H r=some (.cells q e cs))(a:p<cs.length):A9 t (.ptr r p 0) H K=K (cs.getD p .dk):=by
 have:A9 t (.ptr r p 0) H K=IZ H r λx=>KY x λ_ cs=>@Bool.rec (λ_=>Af) (hdK (CL (Nat.add p 0) cs) K) (Fb t.size (CL (Nat.add p 0) cs) λc=>K (.agg c)) t.d.isAgg:=rfl;rw[this,h,BO f];show hdK (CL p cs) K=_;rw[Cs,l11 a,Tc,II a];rfl
def D3{z:Int}(k:Nat)(c:t.d=.array m e 1)(hz:z=k)(hk:k<m):Cy t (.ptr s 0 0) (.v (.int .i64 z)) K=K (.ptr s k 0):=by
 subst hz;have f:Cy t (.ptr s 0 0) (.v (.int .i64 (k:Int))) K=iN (k:Int) λn=>ck (Nat.blt n m) (fN (Nat.add 0 (Nat.mul n 1)) λq=>K (.ptr s q 0)):=by
  obtain⟨a,b,d,z⟩:=t;simp only at c;subst c;rfl
 rw[f,KO,Ep];have h2:Nat.add 0 (Nat.mul k 1)=k:=by show 0+k*1=k;omega
 have g:Nat.blt k m=true:=by rw[Ua];exact hk
 rw[h2,g];rfl
def A1y{t j:TI}{cs:Is}{z:Int}(k:Nat)(f:t.d=.array m e 1)(u:j.d.isAgg=false)(hz:z=k)(hk:k<m)(hc:m<=cs.length):Yp t j (.agg cs) (.v (.int .i64 z)) K=K (cs.getD k .dk):=by
 subst hz;have g:Yp t j (.agg cs) (.v (.int .i64 (k:Int))) K=iN (k:Int) λn=>ck (Nat.blt n m) (dE j (CL (Nat.mul n 1) cs) K):=by
  obtain⟨a,b,d,z⟩:=t;simp only at f;subst f;rfl
 rw[g,KO];have h2:Nat.mul k 1=k:=l28 k;have h:Nat.blt k m=true:=by rw[Ua];exact hk
 have c:k<cs.length:=by omega
 rw[h2,h,Cs,l11 c,Tc,II c];show dE j (cs[k]::cs.drop (k+1)) K=_;unfold dE;rw[u];rfl
def GQ{r p k:Nat}:Mv (.ptr r p k) K=K (.ptr r p k):=id rfl
theorem Vm{R:Rt}{args:Is}{t:Tm}{ps:Array Tmp}{K:KV}(g:Ao H r=some (.loop N t ps aZ bd (some none)))(h:pQ N ps.toList=true):
 OB R r args H K=rdK R.run N t ps args aZ bd H (λd f=>FC d r true none f) (λe c=>match e with
  |.normal=>FC c r false (some none) λa=>K (.v (.bool true)) a
  |.ret=>FC c r false (some (some .ret)) λa=>K (.v (.bool false)) a
  |.exit id=>FC c r false (some (some (.exit id))) λa=>K (.v (.bool false)) a
  |.goto l=>FC c r false (some (some (.goto l))) λa=>K (.v (.bool false)) a
  |_=>none):=by
 unfold OB;rw[BO g];show ck (pQ N ps.toList) _=_;rw[h];rfl
def Vt{t:Tm}{ps:Array Tmp}{K:Ru}(a:Ao H r=some (.loop N t ps aZ bd (some none))):FC H r true to K=K (upd H r (.loop N t ps aZ bd to)):=by
 unfold FC;rw[BO a];show XA5 H r _ K=_;rw[CX]
def Vs{t:Tm}{ps:Array Tmp}{K:Ru}(a:Ao H r=some (.loop N t ps aZ bd none)):FC H r false to K=K (upd H r (.loop N t ps aZ bd to)):=by
 unfold FC;rw[BO a];show XA5 H r _ K=_;rw[CX]
def Jk{t:Tm}{ps:Array Tmp}(h:Ao H r=some x):Ao (upd H r (.loop N t ps aZ bd to)) r=some (.loop N t ps aZ bd to):=by
 rw[Et h];rfl
end
def B1c{E:XE}{g:Nat}{R:Rt}{args:Is}{H:Hp}{K:K2}(h:∀s,args≠[.ptr s 0 0]):zpm E g R args H K=Ak R g args H K:=by
 show @Bool.rec (λ_=>Af) (Ak R g args H K) (Sk R g args H K) (E.lm g)=_;cases E.lm g
 ·rfl
 ·show Sk R g args H K=_;unfold Sk;split
  ·rename_i s;exact absurd rfl (h s)
  ·rfl
section
variable{f:Nat}{P:Program}{α:Type}
def BT.allB(c:Nat->α->Bool):BT α->Bool
 |.leaf=>true
 |.node k v l r=>c k v&&(l.allB c&&r.allB c)
def A71{c:Nat->α->Bool}{p:Nat->α->Prop}(h:∀k v,c k v=true->p k v):∀{b:BT α},b.allB c=true->b.All p:=by
 intro b
 induction b with
 |leaf=>intro _;trivial
 |node k v l r a d=>
  intro hb;simp only[BT.allB,I0]at hb;exact⟨h k v hb.1,a hb.2.1,d hb.2.2⟩
def R_:TD->Bool
 |.slice _ 0=>true
 |.array _ _ 0=>true
 |_=>false
def A0H:AV->AV->Bool
 |.v (.int k n),.v (.int c d)=>decide (k=c)&&decide (n=d)
 |.v (.bool b),.v (.bool a)=>b==a
 |.v (.string s),.v (.string e)=>s.data.toList.isEmpty&&e.data.toList.isEmpty
 |.v (.slice none 0 0),.v (.slice none 0 0)=>true
 |.v (.pointer none),.v (.pointer none)=>true
 |.v (.map none),.v (.map none)=>true
 |.v .nilFunc,.v .nilFunc=>true
 |.v .nilIface,.v .nilIface=>true
 |_,_=>false
def YF:Is->Is->Bool
 |[],[]=>true
 |a::c,b::d=>A0H a b&&YF c d
 |_,_=>false
def zeq:AV->AV->Bool
 |.agg cs,.agg ds=>YF cs ds
 |a,b=>A0H a b
def ZN{a b:AV}(h:A0H a b=true):a=b:=by
 unfold A0H at h;split at h<;>simp at h<;>try rfl
 ·rw[h.1,h.2]
 ·rw[h]
 ·rename_i s c;obtain⟨⟨l⟩⟩:=s;obtain⟨⟨d⟩⟩:=c;simp at h;rw[h.1,h.2]
def rF:∀{c d:Is},YF c d=true->c=d:=by
 intro c
 induction c with
 |nil=>intro d h;cases d<;>simp[YF]at h⊢
 |cons a c ih=>
  intro d h;cases d with
  |nil=>simp[YF]at h
  |cons b d=>
   simp only[YF,I0]at h;rw[ZN h.1,ih h.2]
def A1O{a b:AV}(h:zeq a b=true):a=b:=by
 unfold zeq at h;split at h
 ·rw[rF h]
 ·exact ZN h
def B1N:TD->TD->Bool
 |.int k,.int d=>decide (k=d)
 |.bool,.bool=>true
 |.string,.string=>true
 |.pointer e,.pointer a=>decide (e=a)
 |.slice e n,.slice a g=>decide (e=a)&&decide (n=g)
 |.array m e n,.array i a g=>decide (m=i)&&decide (e=a)&&decide (n=g)
 |.struct h,.struct c=>decide (h=c)
 |.map k e,.map d a=>decide (k=d)&&decide (e=a)
 |.func,.func=>true
 |.iface,.iface=>true
 |.other,.other=>true
 |_,_=>false
def L?{a b:TD}(h:B1N a b=true):a=b:=by
 unfold B1N at h;split at h<;>simp at h<;>try rfl
 ·rw[h]
 ·rw[h]
 ·rw[h.1,h.2]
 ·rw[h.1.1,h.1.2,h.2]
 ·rw[h]
 ·rw[h.1,h.2]
def tiB(P:Program)(t:Nat)(i:TI):Bool:=
 match P.info? t with
 |some x=>match P.underlying t,x.zero with
  |some u,some z=>Nat.beq x.size i.size&&(Nat.beq x.bytes i.bytes&&(B1N (td P u) i.d&&(zeq (pN z) i.zero&& !R_ i.d)))
  |_,_=>false
 |none=>false
def TiR(P:Program)(t:Nat)(i:TI):Prop:=TOk1 P t i/\R_ i.d=false
def B1M(t:Nat)(i:TI)(h:tiB P t i=true):TiR P t i:=by
 unfold tiB at h;split at h
 ·rename_i x a;split at h
  ·rename_i u z g hz;simp only[I0,tD]at h;obtain⟨h1,h2,c,d,e⟩:=h;refine⟨⟨?_,?_,?_⟩,e⟩
   ·rw[a];simp[VQ h1,VQ h2]
   ·rw[a];simp[hz,A1O d]
   ·rw[g];simp[L? c]
  ·cases h
 ·cases h
def FnR(P:Program)(f:Nat)(x:XFn):Prop:=(P.funcs[f]?).map (λfn=>(fn.body,fn.ntmps,fn.results.toList,fn.name== "runtime.NumGoroutine"))=some (some x.c,x.n,x.rs,false)
def FnR.ex{x:XFn}(h:FnR P f x):∃fn,P.funcs[f]?=some fn/\fn.body=some x.c/\fn.ntmps=x.n/\fn.results.toList=x.rs/\(fn.name== "runtime.NumGoroutine")=false:=by
 unfold FnR at h;cases a:P.funcs[f]? with
 |none=>rw[a]at h;simp at h
 |some fn=>
  rw[a]at h;simp only[oH,l0y,Prod.mk.injEq]at h;exact⟨fn,rfl,h.1,h.2.1,h.2.2.1,h.2.2.2⟩
def DrR(E:XE)(_:Nat)(x:XFn):Prop:=PT (iX E ⟨false,x.lv,x.fz,x.n,x.rc⟩) x.c=true
def eqR(P:Program)(t:Nat)(ks:List LK):Prop:=leaves P 6 t=some (true,ks)/\P.eqGuardType P.depth t=false
def glR(_:Nat)(cs:Is):Prop:=cs.all isV=true
def B77(P:Program)(l:Lie):Prop:=liesAt P P.depth l.1 (l.2.1/P.cellsOf l.1) l.2.2.1 l.2.2.2 1=true/\(P.info? l.2.2.2).isSome=true
def B5R{E:XE}(c:E.ty.All (TiR P))(k:E.T=E.ty.get)(a:P.follows .mixedOrders=true)(j:E.gl.All glR)(w:E.ft.All (FnR P))(v:E.ft.All (DrR E))(he:E.eqt.All (eqR P))(y:∀l∈E.lie,B77 P l)(A:P.underlying E.up=some .unsafePointer)(hn:∀f,E.ne f=true->YB P f):XE.Ok iX E P where
 ty:=λt i h=>(c.get (by rw[k]at h;exact h)).1
 pos:=λt i e m h d p=>by
  have:=(c.get (by rw[k]at h;exact h)).2;subst p;rcases d with d|⟨n,d⟩<;>(rw[d]at this;simp[R_]at this)
 mix:=a
 gl:=λg cs h=>j.get h
 fn:=λf x h=>by
  obtain⟨fn,h1,h2,q,r,s⟩:=(w.get h).ex;exact⟨fn,h1,h2,q,r,s,v.get h⟩
 eq:=λt ks h=>⟨(he.get h).1,(he.get h).2⟩
 lie:=λe n o u h=>y _ h
 up:=λ_=>A
 ne:=hn
def tI{fn:Func}(e:P.funcs[f]?=some fn)(c:(fn.name== "runtime.NumGoroutine")=false)(hb:fn.body.isNone=true)(hn:Extern.findNext fn=none)(he:Extern.find fn=some Extern.AbiNoEscape.same):YB P f:=by
 intro x w;have:Extern.AbiNoEscape.same #[x]=pure x:=rfl;have a:¬fn.name= "runtime.NumGoroutine" :=by simpa using c
 have d:fn.body=none:=by simpa using hb
 simp[callFunc,e,a,d,hn,he,mark,this];rfl
end
end Go.Abs
end
