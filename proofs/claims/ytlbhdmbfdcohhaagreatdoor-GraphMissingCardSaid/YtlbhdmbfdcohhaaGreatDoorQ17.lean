import Derived.KernelRfl
import Derived.Test.YtlbhdmbfdcohhaaGreatDoorQ11
import Derived.Test.YtlbhdmbfdcohhaaGreatDoorQ12
import Derived.Test.YtlbhdmbfdcohhaaGreatDoorQ13
import Derived.Test.YtlbhdmbfdcohhaaGreatDoorQ14
import Derived.Test.YtlbhdmbfdcohhaaGreatDoorQ15
import Derived.Test.YtlbhdmbfdcohhaaGreatDoorQ16
set_option linter.all false
set_option maxHeartbeats 100000000
noncomputable section
namespace Go.Proofs
open Go.Abs
set_option maxRecDepth 100000
abbrev aN0 (F:Rt→Hp→KV→Al):NF:= λR=>ar0 (F R)
abbrev IA (F:Rt→AV→Hp→KV→Al):NF:= λR=>ar1 (F R)
abbrev JE (F:Rt→AV→AV→Hp→KV→Al):NF:= λR=>ar2 (F R)
abbrev aN3 (F:Rt→AV→AV→AV→Hp→KV→Al):NF:= λR=>ar3 (F R)
abbrev aN4 (F:Rt→AV→AV→AV→AV→Hp→KV→Al):NF:= λR=>ar4 (F R)
def nT (L:Nat):BT NF:=(A1 172 (IA (A2D L)) (A1 68 (IA (A16 L)) (A1 30 (aN4 (Sc L)) (A1 19 (IA (Kz L)) (A1 12 (JE (Vy L)) (A1 9 (IA (RY L)) (A1 8 (aN0 (Sm L)) (AY 6 (JE (J3 L))) BD) (A1 11 (IA (Q7 L)) (AY 10 (IA (TH L))) BD)) (A1 15 (JE (Sn L)) (A1 14 (JE (TJ L)) (AY 13 (JE (Jo L))) BD) (AY 16 (JE (MC L))))) (A1 24 (IA (Sd L)) (A1 22 (JE (JZ L)) (A1 21 (IA (JY L)) (AY 20 (IA (Q8 L))) BD) (AY 23 (IA (OZ L)))) (A1 27 (IA (Nk L)) (A1 26 (JE (Ov L)) (AY 25 (IA (Q9 L))) BD) (AY 29 (JE (RX L)))))) (A1 56 (IA (Sf L)) (A1 43 (IA (TN L)) (A1 33 (JE (IW L)) (A1 32 (IA (IX L)) (AY 31 (IA (Sq L))) BD) (A1 41 (aN4 (FC L)) (AY 40 (IA (KK L))) BD)) (A1 54 (JE (RZ L)) (A1 45 (IA (Oq L)) (AY 44 (IA (NQ L))) BD) (AY 55 (aN3 (Sj L))))) (A1 61 (JE (Ee L)) (A1 59 (IA (ME L)) (A1 58 (IA (Sb L)) (AY 57 (aN4 (Sg L))) BD) (AY 60 (JE (Fc L)))) (A1 66 (IA (Mz L)) (A1 64 (IA (Dr L)) (AY 62 (IA (Ga L))) BD) (AY 67 (JE (Qy L))))))) (A1 124 (JE (A4l L)) (A1 96 (JE (NR L)) (A1 89 (aN4 (Fy L)) (A1 83 (JE (A8d L)) (A1 70 (IA (Sa L)) (AY 69 (IA (Gy L))) BD) (A1 86 (JE (Se L)) (AY 84 (JE (Si L))) BD)) (A1 92 (IA (FI L)) (A1 91 (IA (Ss L)) (AY 90 (IA (KL L))) BD) (AY 95 (JE (CD L))))) (A1 104 (IA (Ky L)) (A1 100 (IA (Qx L)) (A1 98 (IA (A15 L)) (AY 97 (aN0 (L3 L))) BD) (AY 101 (aN3 (OY L)))) (A1 108 (IA (Qt L)) (A1 107 (IA (Nj L)) (AY 105 (IA (Qu L))) BD) (AY 109 (IA (Qv L)))))) (A1 147 (JE (Gb L)) (A1 142 (JE (FQ L)) (A1 133 (aN3 (L2 L)) (A1 131 (JE (A68 L)) (AY 125 (IA (Zj L))) BD) (A1 140 (JE (XA2 L)) (AY 137 (IA (EH L))) BD)) (A1 145 (IA (HX L)) (A1 144 (IA (L7 L)) (AY 143 (JE (FB L))) BD) (AY 146 (IA (Gz L))))) (A1 154 (JE (Zg L)) (A1 150 (JE (CQ L)) (A1 149 (IA (IY L)) (AY 148 (JE (J2 L))) BD) (AY 153 (IA (A2y L)))) (A1 164 (IA (L4 L)) (A1 162 (IA (A2z L)) (AY 160 (IA (Qw L))) BD) (AY 166 (IA (Sh L)))))))) (A1 265 (JE (A2G L)) (A1 217 (IA (Pc L)) (A1 192 (IA (A2v L)) (A1 180 (aN3 (Pb L)) (A1 176 (JE (A6b L)) (A1 175 (JE (A6a L)) (AY 173 (JE (Zk L))) BD) (A1 179 (JE (A69 L)) (AY 177 (JE (A4n L))) BD)) (A1 186 (IA (HD L)) (A1 185 (IA (Pj L)) (AY 183 (aN3 (J4 L))) BD) (AY 191 (IA (My L))))) (A1 201 (aN3 (EF L)) (A1 199 (IA (L6 L)) (A1 196 (IA (XN L)) (AY 193 (JE (EY L))) BD) (AY 200 (IA (M0 L)))) (A1 213 (JE (A67 L)) (A1 203 (JE (Pg L)) (AY 202 (IA (LD L))) BD) (AY 214 (IA (A13 L)))))) (A1 240 (JE (De L)) (A1 227 (JE (A2A L)) (A1 223 (JE (Zh L)) (A1 221 (JE (A2B L)) (AY 220 (IA (A14 L))) BD) (A1 226 (JE (A2C L)) (AY 224 (JE (Zi L))) BD)) (A1 238 (JE (FT L)) (A1 235 (IA (KM L)) (AY 230 (IA (XM L))) BD) (AY 239 (IA (NT L))))) (A1 253 (IA (L8 L)) (A1 249 (IA (A2u L)) (A1 247 (JE (D7 L)) (AY 241 (IA (HE L))) BD) (AY 250 (IA (F9 L)))) (A1 263 (IA (Zo L)) (A1 261 (IA (A4m L)) (AY 255 (JE (HB L))) BD) (AY 264 (JE (Ww L))))))) (A1 300 (IA (Tf L)) (A1 285 (JE (Fq L)) (A1 275 (JE (Wq L)) (A1 270 (IA (FR L)) (A1 269 (JE (D0 L)) (AY 266 (JE (A2H L))) BD) (A1 272 (IA (E3 L)) (AY 271 (IA (EE L))) BD)) (A1 281 (IA (L5 L)) (A1 280 (JE (Dd L)) (AY 279 (IA (IV L))) BD) (AY 282 (JE (GP L))))) (A1 292 (JE (Gc L)) (A1 290 (JE (FA L)) (A1 289 (JE (EG L)) (AY 288 (JE (GO L))) BD) (AY 291 (JE (Fp L)))) (A1 298 (JE (Q6 L)) (A1 297 (JE (A19 L)) (AY 296 (IA (Wu L))) BD) (AY 299 (JE (Tg L)))))) (A1 333 (JE (UN L)) (A1 325 (IA (JX L)) (A1 305 (JE (DN L)) (A1 304 (JE (A2F L)) (AY 303 (JE (Sp L))) BD) (A1 323 (IA (Zn L)) (AY 314 (JE (Dz L))) BD)) (A1 328 (aN3 (PK L)) (A1 327 (JE (UM L)) (AY 326 (IA (Qz L))) BD) (AY 331 (aN3 (Nv L))))) (A1 365 (aN3 (Rj L)) (A1 336 (IA (Wv L)) (A1 335 (JE (Zm L)) (AY 334 (aN3 (Pf L))) BD) (AY 364 (JE (IF L)))) (A1 386 (aN3 (Pd L)) (A1 370 (aN4 (TO L)) (AY 368 (aN3 (PJ L))) BD) (AY 396 (JE (MA L)))))))))
set_option maxHeartbeats 100000000 in
theorem C3Q (L:Nat):(nT L).All (Lk (E L)):=by
 unfold nT
 repeat' first|exact A50|apply A4Z
 all_goals as_aux_lemma=>first|exact lk0 λ_ _ _=>by kernel_rfl|exact lk1 λ_ _ _ _=>by kernel_rfl|exact lk2 λ_ _ _ _ _=>by kernel_rfl|exact lk3 λ_ _ _ _ _ _=>by kernel_rfl|exact lk4 λ_ _ _ _ _ _ _=>by kernel_rfl|exact lk5 λ_ _ _ _ _ _ _ _=>by kernel_rfl
def oT:BT OF:= .node 198 B3X (.node 93 Wd .leaf .leaf) (.node 330 A4a .leaf .leaf)
def rt (L n:Nat):Rt:=Sv (E L) (nT L) oT n
abbrev CN0 (f:Nat) (F:Nat→Rt→Hp→KV→Al):Prop:=∀(L n:Nat) (H:Hp) (K:KV),(rt L (n+1)).call f [] H K=F L (rt L n) H K
theorem cN0 {f:Nat} {F:Nat→Rt→Hp→KV→Al} (h:∀L,(nT L).get f=some λR=>ar0 (F L R)) (g:∀_:Nat,oT.get f=none):CN0 f F:= λL n H K=>A8j (F:=F L) (h L) (g 0) n H K
abbrev LX (f:Nat) (F:Nat→Rt→AV→Hp→KV→Al):Prop:=∀(L n:Nat) (a:AV) (H:Hp) (K:KV),(rt L (n+1)).call f [a] H K=F L (rt L n) a H K
theorem LY {f:Nat} {F:Nat→Rt→AV→Hp→KV→Al} (h:∀L,(nT L).get f=some λR=>ar1 (F L R)) (g:∀_:Nat,oT.get f=none):LX f F:= λL n a H K=>A8i (F:=F L) (h L) (g 0) n a H K
abbrev QP (f:Nat) (F:Nat→Rt→AV→AV→Hp→KV→Al):Prop:=∀(L n:Nat) (a b:AV) (H:Hp) (K:KV),(rt L (n+1)).call f [a,b] H K=F L (rt L n) a b H K
theorem RE {f:Nat} {F:Nat→Rt→AV→AV→Hp→KV→Al} (h:∀L,(nT L).get f=some λR=>ar2 (F L R)) (g:∀_:Nat,oT.get f=none):QP f F:= λL n a b H K=>A8h (F:=F L) (h L) (g 0) n a b H K
abbrev CN3 (f:Nat) (F:Nat→Rt→AV→AV→AV→Hp→KV→Al):Prop:=∀(L n:Nat) (a b c:AV) (H:Hp) (K:KV),(rt L (n+1)).call f [a,b,c] H K=F L (rt L n) a b c H K
theorem cN3 {f:Nat} {F:Nat→Rt→AV→AV→AV→Hp→KV→Al} (h:∀L,(nT L).get f=some λR=>ar3 (F L R)) (g:∀_:Nat,oT.get f=none):CN3 f F:= λL n a b c H K=>A8g (F:=F L) (h L) (g 0) n a b c H K
abbrev CN4 (f:Nat) (F:Nat→Rt→AV→AV→AV→AV→Hp→KV→Al):Prop:=∀(L n:Nat) (a b c d:AV) (H:Hp) (K:KV),(rt L (n+1)).call f [a,b,c,d] H K=F L (rt L n) a b c d H K
theorem cN4 {f:Nat} {F:Nat→Rt→AV→AV→AV→AV→Hp→KV→Al} (h:∀L,(nT L).get f=some λR=>ar4 (F L R)) (g:∀_:Nat,oT.get f=none):CN4 f F:= λL n a b c d H K=>A8f (F:=F L) (h L) (g 0) n a b c d H K
theorem So:QP XA6 J3:=RE (λ_=>rfl) (λ_=>rfl)
theorem A17:CN0 SH Sm:=cN0 (λ_=>rfl) (λ_=>rfl)
theorem A0U:LX SD RY:=LY (λ_=>rfl) (λ_=>rfl)
theorem A2w:LX Ie TH:=LY (λ_=>rfl) (λ_=>rfl)
theorem Zp:LX Nm Q7:=LY (λ_=>rfl) (λ_=>rfl)
theorem A4o:QP DC Vy:=RE (λ_=>rfl) (λ_=>rfl)
theorem Oc:QP ES Jo:=RE (λ_=>rfl) (λ_=>rfl)
theorem A2x:QP N9 TJ:=RE (λ_=>rfl) (λ_=>rfl)
theorem A18:QP O1 Sn:=RE (λ_=>rfl) (λ_=>rfl)
theorem Vz:QP Fs MC:=RE (λ_=>rfl) (λ_=>rfl)
theorem PX:LX DJ Kz:=LY (λ_=>rfl) (λ_=>rfl)
theorem Zq:LX Nn Q8:=LY (λ_=>rfl) (λ_=>rfl)
theorem Td:LX DV JY:=LY (λ_=>rfl) (λ_=>rfl)
theorem Te:QP EV JZ:=RE (λ_=>rfl) (λ_=>rfl)
theorem XJ:LX FD OZ:=LY (λ_=>rfl) (λ_=>rfl)
theorem Ws:LX GA Sd:=LY (λ_=>rfl) (λ_=>rfl)
theorem Zr:LX No Q9:=LY (λ_=>rfl) (λ_=>rfl)
theorem TQ:QP I2 Ov:=RE (λ_=>rfl) (λ_=>rfl)
theorem XA7:LX HI Nk:=LY (λ_=>rfl) (λ_=>rfl)
theorem A0T:QP JO RX:=RE (λ_=>rfl) (λ_=>rfl)
theorem A0X:CN4 LL Sc:=cN4 (λ_=>rfl) (λ_=>rfl)
theorem Wx:LX Et Sq:=LY (λ_=>rfl) (λ_=>rfl)
theorem Rm:LX Du IX:=LY (λ_=>rfl) (λ_=>rfl)
theorem Rk:QP Fj IW:=RE (λ_=>rfl) (λ_=>rfl)
theorem TP:LX GC KK:=LY (λ_=>rfl) (λ_=>rfl)
theorem Ix:CN4 Ch FC:=cN4 (λ_=>rfl) (λ_=>rfl)
theorem A2E:LX NC TN:=LY (λ_=>rfl) (λ_=>rfl)
theorem Wr:LX Dh NQ:=LY (λ_=>rfl) (λ_=>rfl)
theorem TL:LX JP Oq:=LY (λ_=>rfl) (λ_=>rfl)
theorem A0V:QP Bx RZ:=RE (λ_=>rfl) (λ_=>rfl)
theorem A12:CN3 Oz Sj:=cN3 (λ_=>rfl) (λ_=>rfl)
theorem TM:LX EO Sf:=LY (λ_=>rfl) (λ_=>rfl)
theorem A0Z:CN4 Oy Sg:=cN4 (λ_=>rfl) (λ_=>rfl)
theorem TK:LX I0 Sb:=LY (λ_=>rfl) (λ_=>rfl)
theorem V0:LX JQ ME:=LY (λ_=>rfl) (λ_=>rfl)
theorem Jn:QP DR Fc:=RE (λ_=>rfl) (λ_=>rfl)
theorem JN:QP Eg Ee:=RE (λ_=>rfl) (λ_=>rfl)
theorem Kn:LX EN Ga:=LY (λ_=>rfl) (λ_=>rfl)
theorem Iw:LX Fi Dr:=LY (λ_=>rfl) (λ_=>rfl)
theorem Vw:LX MO Mz:=LY (λ_=>rfl) (λ_=>rfl)
theorem Zl:QP QE Qy:=RE (λ_=>rfl) (λ_=>rfl)
theorem HW:LX DA Gy:=LY (λ_=>rfl) (λ_=>rfl)
theorem A0W:LX LJ Sa:=LY (λ_=>rfl) (λ_=>rfl)
theorem A11:QP Hn Si:=RE (λ_=>rfl) (λ_=>rfl)
theorem A0Y:QP BI Se:=RE (λ_=>rfl) (λ_=>rfl)
theorem F8:CN4 BY Fy:=cN4 (λ_=>rfl) (λ_=>rfl)
theorem TR:LX I3 KL:=LY (λ_=>rfl) (λ_=>rfl)
theorem A1a:LX O2 Ss:=LY (λ_=>rfl) (λ_=>rfl)
theorem JS:LX FM FI:=LY (λ_=>rfl) (λ_=>rfl)
theorem Hg:QP CE CD:=RE (λ_=>rfl) (λ_=>rfl)
theorem Wt:QP C5 NR:=RE (λ_=>rfl) (λ_=>rfl)
theorem UG:CN0 LN L3:=cN0 (λ_=>rfl) (λ_=>rfl)
theorem Zf:LX Gq Qx:=LY (λ_=>rfl) (λ_=>rfl)
theorem XI:CN3 CL OY:=cN3 (λ_=>rfl) (λ_=>rfl)
theorem PW:LX EW Ky:=LY (λ_=>rfl) (λ_=>rfl)
theorem Zc:LX Ei Qu:=LY (λ_=>rfl) (λ_=>rfl)
theorem SS:LX E8 Nj:=LY (λ_=>rfl) (λ_=>rfl)
theorem Zb:LX Eh Qt:=LY (λ_=>rfl) (λ_=>rfl)
theorem Zd:LX HG Qv:=LY (λ_=>rfl) (λ_=>rfl)
theorem Rh:CN3 DB L2:=cN3 (λ_=>rfl) (λ_=>rfl)
theorem HC:LX Df EH:=LY (λ_=>rfl) (λ_=>rfl)
theorem LC:QP Bz XA2:=RE (λ_=>rfl) (λ_=>rfl)
theorem MB:QP BN FQ:=RE (λ_=>rfl) (λ_=>rfl)
theorem Mg:QP Cg FB:=RE (λ_=>rfl) (λ_=>rfl)
theorem UK:LX ER L7:=LY (λ_=>rfl) (λ_=>rfl)
theorem PI:LX FN HX:=LY (λ_=>rfl) (λ_=>rfl)
theorem NS:LX CM Gz:=LY (λ_=>rfl) (λ_=>rfl)
theorem Nt:QP Jq Gb:=RE (λ_=>rfl) (λ_=>rfl)
theorem Sk:QP J8 J2:=RE (λ_=>rfl) (λ_=>rfl)
theorem Rn:LX Fk IY:=LY (λ_=>rfl) (λ_=>rfl)
theorem FJ:QP Gn CQ:=RE (λ_=>rfl) (λ_=>rfl)
theorem Ze:LX Nl Qw:=LY (λ_=>rfl) (λ_=>rfl)
theorem UH:LX LO L4:=LY (λ_=>rfl) (λ_=>rfl)
theorem A10:LX Hl Sh:=LY (λ_=>rfl) (λ_=>rfl)
theorem XK:CN3 Cu Pb:=cN3 (λ_=>rfl) (λ_=>rfl)
theorem Su:CN3 BO J4:=cN3 (λ_=>rfl) (λ_=>rfl)
theorem XP:LX Ib Pj:=LY (λ_=>rfl) (λ_=>rfl)
theorem Ph:LX Dl HD:=LY (λ_=>rfl) (λ_=>rfl)
theorem Vv:LX MN My:=LY (λ_=>rfl) (λ_=>rfl)
theorem Le:QP Bq EY:=RE (λ_=>rfl) (λ_=>rfl)
theorem UJ:LX DY L6:=LY (λ_=>rfl) (λ_=>rfl)
theorem Vx:LX Ew M0:=LY (λ_=>rfl) (λ_=>rfl)
theorem KI:CN3 Hj EF:=cN3 (λ_=>rfl) (λ_=>rfl)
theorem UO:LX XA5 LD:=LY (λ_=>rfl) (λ_=>rfl)
theorem XO:QP DD Pg:=RE (λ_=>rfl) (λ_=>rfl)
theorem XL:LX LM Pc:=LY (λ_=>rfl) (λ_=>rfl)
theorem TS:LX GD KM:=LY (λ_=>rfl) (λ_=>rfl)
theorem MF:QP Eo FT:=RE (λ_=>rfl) (λ_=>rfl)
theorem Wy:LX IJ NT:=LY (λ_=>rfl) (λ_=>rfl)
theorem HV:QP Co De:=RE (λ_=>rfl) (λ_=>rfl)
theorem Pi:LX F1 HE:=LY (λ_=>rfl) (λ_=>rfl)
theorem IU:QP C7 D7:=RE (λ_=>rfl) (λ_=>rfl)
theorem Me:LX Ig F9:=LY (λ_=>rfl) (λ_=>rfl)
theorem UL:LX Jr L8:=LY (λ_=>rfl) (λ_=>rfl)
theorem Pe:QP Fz HB:=RE (λ_=>rfl) (λ_=>rfl)
theorem IE:QP D2 D0:=RE (λ_=>rfl) (λ_=>rfl)
theorem MD:LX Di FR:=LY (λ_=>rfl) (λ_=>rfl)
theorem KH:LX EM EE:=LY (λ_=>rfl) (λ_=>rfl)
theorem Ko:LX Dk E3:=LY (λ_=>rfl) (λ_=>rfl)
theorem Ri:LX Fh IV:=LY (λ_=>rfl) (λ_=>rfl)
theorem HU:QP Cn Dd:=RE (λ_=>rfl) (λ_=>rfl)
theorem UI:LX LQ L5:=LY (λ_=>rfl) (λ_=>rfl)
theorem Ou:QP GR GP:=RE (λ_=>rfl) (λ_=>rfl)
theorem LB:QP CO Fq:=RE (λ_=>rfl) (λ_=>rfl)
theorem Ot:QP DQ GO:=RE (λ_=>rfl) (λ_=>rfl)
theorem KJ:QP C8 EG:=RE (λ_=>rfl) (λ_=>rfl)
theorem Mf:QP CW FA:=RE (λ_=>rfl) (λ_=>rfl)
theorem L9:QP CN Fp:=RE (λ_=>rfl) (λ_=>rfl)
theorem Nu:QP Dw Gc:=RE (λ_=>rfl) (λ_=>rfl)
theorem Js:QP DO DN:=RE (λ_=>rfl) (λ_=>rfl)
theorem ID:QP D1 Dz:=RE (λ_=>rfl) (λ_=>rfl)
end Go.Proofs
end
