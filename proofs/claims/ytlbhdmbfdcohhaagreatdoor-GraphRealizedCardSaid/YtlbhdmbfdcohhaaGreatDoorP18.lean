import Derived.KernelRfl
import Derived.Test.YtlbhdmbfdcohhaaGreatDoorP12
import Derived.Test.YtlbhdmbfdcohhaaGreatDoorP13
import Derived.Test.YtlbhdmbfdcohhaaGreatDoorP14
import Derived.Test.YtlbhdmbfdcohhaaGreatDoorP15
import Derived.Test.YtlbhdmbfdcohhaaGreatDoorP16
import Derived.Test.YtlbhdmbfdcohhaaGreatDoorP17
set_option linter.all false
set_option maxHeartbeats 100000000
noncomputable section
namespace Go.Proofs
open Go.Abs
set_option maxRecDepth 100000
abbrev aN0 (F:Rt→Hp→KV→Am):NF:= λR=>ar0 (F R)
abbrev Ir (F:Rt→AV→Hp→KV→Am):NF:= λR=>ar1 (F R)
abbrev JB (F:Rt→AV→AV→Hp→KV→Am):NF:= λR=>ar2 (F R)
abbrev aN3 (F:Rt→AV→AV→AV→Hp→KV→Am):NF:= λR=>ar3 (F R)
abbrev aN4 (F:Rt→AV→AV→AV→AV→Hp→KV→Am):NF:= λR=>ar4 (F R)
def nT (L:Nat):BT NF:=(A1 173 (JB (YB L)) (A1 69 (Ir (FX L)) (A1 30 (aN4 (R7 L)) (A1 19 (Ir (Nq L)) (A1 13 (JB (IF L)) (A1 9 (Ir (Rx L)) (A1 8 (aN0 (RH L)) (AX 4 (aN3 (I6 L))) BG) (A1 11 (Ir (PZ L)) (AX 10 (Ir (Tk L))) BG)) (A1 16 (JB (LW L)) (A1 15 (JB (RI L)) (AX 14 (JB (Tl L))) BG) (AX 17 (aN3 (PW L))))) (A1 24 (Ir (R8 L)) (A1 22 (JB (J5 L)) (A1 21 (Ir (J4 L)) (AX 20 (Ir (Qa L))) BG) (AX 23 (Ir (O1 L)))) (A1 27 (Ir (MF L)) (A1 26 (JB (NK L)) (AX 25 (Ir (Qb L))) BG) (AX 29 (JB (Rw L)))))) (A1 57 (aN4 (RB L)) (A1 44 (Ir (Nn L)) (A1 41 (aN4 (Fl L)) (A1 32 (Ir (SH L)) (AX 31 (Ir (RK L))) BG) (A1 43 (Ir (Tq L)) (AX 42 (JB (Ry L))) BG)) (A1 55 (aN3 (RF L)) (A1 54 (JB (R4 L)) (AX 45 (Ir (NG L))) BG) (AX 56 (Ir (RA L))))) (A1 62 (Ir (HS L)) (A1 60 (JB (Gs L)) (A1 59 (Ir (LY L)) (AX 58 (Ir (R6 L))) BG) (AX 61 (JB (DJ L)))) (A1 67 (JB (PV L)) (A1 66 (Ir (LR L)) (AX 65 (Ir (PN L))) BG) (AX 68 (Ir (A0s L))))))) (A1 131 (JB (A5i L)) (A1 98 (Ir (A0r L)) (A1 90 (Ir (Ko L)) (A1 84 (JB (RE L)) (A1 83 (JB (A7p L)) (AX 70 (Ir (R5 L))) BG) (A1 89 (aN4 (EZ L)) (AX 86 (JB (R9 L))) BG)) (A1 96 (JB (No L)) (A1 92 (Ir (Hr L)) (AX 91 (Ir (RL L))) BG) (AX 97 (aN0 (KS L))))) (A1 107 (Ir (ME L)) (A1 104 (Ir (JS L)) (A1 101 (aN3 (O0 L)) (AX 100 (Ir (PU L))) BG) (AX 105 (Ir (PQ L)))) (A1 124 (JB (A3F L)) (A1 109 (Ir (PR L)) (AX 108 (Ir (PP L))) BG) (AX 125 (Ir (Y9 L)))))) (A1 148 (JB (IZ L)) (A1 143 (JB (Fk L)) (A1 140 (JB (ET L)) (A1 137 (Ir (Ev L)) (AX 133 (aN3 (KR L))) BG) (AX 142 (JB (Fz L)))) (A1 146 (Ir (FY L)) (A1 145 (Ir (Hu L)) (AX 144 (Ir (KX L))) BG) (AX 147 (JB (FB L))))) (A1 160 (Ir (PT L)) (A1 153 (Ir (A1R L)) (A1 150 (JB (DK L)) (AX 149 (Ir (I7 L))) BG) (AX 154 (JB (Y5 L)))) (A1 166 (Ir (RC L)) (A1 164 (Ir (KT L)) (AX 162 (Ir (A1S L))) BG) (AX 172 (Ir (A1W L)))))))) (A1 266 (JB (A20 L)) (A1 220 (Ir (A0q L)) (A1 193 (JB (EE L)) (A1 183 (aN3 (Ja L)) (A1 177 (JB (A3H L)) (A1 176 (JB (A5l L)) (AX 175 (JB (A5k L))) BG) (A1 180 (aN3 (O2 L)) (AX 179 (JB (A5j L))) BG)) (A1 191 (Ir (LQ L)) (A1 186 (Ir (GT L)) (AX 185 (Ir (OA L))) BG) (AX 192 (Ir (A1O L))))) (A1 202 (Ir (Lc L)) (A1 200 (Ir (XA5 L)) (A1 199 (Ir (KW L)) (AX 196 (Ir (Xp L))) BG) (AX 201 (aN3 (Et L)))) (A1 214 (Ir (A0p L)) (A1 213 (JB (A5h L)) (AX 203 (JB (O7 L))) BG) (AX 217 (Ir (O3 L)))))) (A1 241 (Ir (GU L)) (A1 230 (Ir (Xo L)) (A1 224 (JB (Y8 L)) (A1 223 (JB (Y6 L)) (AX 221 (JB (A1U L))) BG) (A1 227 (JB (A1T L)) (AX 226 (JB (A1V L))) BG)) (A1 239 (Ir (Nr L)) (A1 238 (JB (F1 L)) (AX 235 (Ir (Kq L))) BG) (AX 240 (JB (CP L))))) (A1 255 (JB (GR L)) (A1 250 (Ir (Fi L)) (A1 249 (Ir (A1N L)) (AX 247 (JB (Dt L))) BG) (AX 253 (Ir (KY L)))) (A1 264 (JB (VK L)) (A1 263 (Ir (YG L)) (AX 261 (Ir (A3G L))) BG) (AX 265 (JB (A1Z L))))))) (A1 303 (JB (RJ L)) (A1 288 (JB (Gq L)) (A1 279 (Ir (I5 L)) (A1 271 (Ir (Es L)) (A1 270 (Ir (F0 L)) (AX 269 (JB (Dl L))) BG) (A1 275 (JB (VE L)) (AX 272 (Ir (Eh L))) BG)) (A1 282 (JB (Gr L)) (A1 281 (Ir (KU L)) (AX 280 (JB (CO L))) BG) (AX 285 (JB (ES L))))) (A1 296 (Ir (VI L)) (A1 291 (JB (ER L)) (A1 290 (JB (Fj L)) (AX 289 (JB (Eu L))) BG) (AX 292 (JB (FC L)))) (A1 299 (JB (SG L)) (A1 298 (JB (PY L)) (AX 297 (JB (A0v L))) BG) (AX 300 (Ir (SF L)))))) (A1 333 (JB (Uh L)) (A1 325 (Ir (J3 L)) (A1 314 (JB (Dk L)) (A1 305 (JB (D5 L)) (AX 304 (JB (A1Y L))) BG) (AX 323 (Ir (YF L)))) (A1 328 (aN3 (Pd L)) (A1 327 (JB (Ug L)) (AX 326 (Ir (PX L))) BG) (AX 331 (aN3 (MR L))))) (A1 365 (aN3 (QK L)) (A1 336 (Ir (VJ L)) (A1 335 (JB (YD L)) (AX 334 (aN3 (O6 L))) BG) (AX 364 (JB (Io L)))) (A1 386 (aN3 (O4 L)) (A1 370 (aN4 (Tr L)) (AX 368 (aN3 (Pc L))) BG) (AX 396 (JB (LU L)))))))))
set_option maxHeartbeats 100000000 in
theorem C34 (L:Nat):(nT L).All (Lk (E L)):=by
 unfold nT
 repeat' first|exact A4g|apply A4f
 all_goals as_aux_lemma=>first|exact lk0 λ_ _ _=>by kernel_rfl|exact lk1 λ_ _ _ _=>by kernel_rfl|exact lk2 λ_ _ _ _ _=>by kernel_rfl|exact lk3 λ_ _ _ _ _ _=>by kernel_rfl|exact lk4 λ_ _ _ _ _ _ _=>by kernel_rfl|exact lk5 λ_ _ _ _ _ _ _ _=>by kernel_rfl
def oT:BT OF:= .node 198 B3e (.node 93 A2u .leaf .leaf) (.node 330 A3u .leaf .leaf)
def rt (L n:Nat):Rt:=RN (E L) (nT L) oT n
abbrev CN0 (f:Nat) (F:Nat→Rt→Hp→KV→Am):Prop:=∀(L n:Nat) (H:Hp) (K:KV),(rt L (n+1)).call f [] H K=F L (rt L n) H K
theorem cN0 {f:Nat} {F:Nat→Rt→Hp→KV→Am} (h:∀L,(nT L).get f=some λR=>ar0 (F L R)) (g:∀_:Nat,oT.get f=none):CN0 f F:= λL n H K=>A7v (F:=F L) (h L) (g 0) n H K
abbrev LB (f:Nat) (F:Nat→Rt→AV→Hp→KV→Am):Prop:=∀(L n:Nat) (a:AV) (H:Hp) (K:KV),(rt L (n+1)).call f [a] H K=F L (rt L n) a H K
theorem XA4 {f:Nat} {F:Nat→Rt→AV→Hp→KV→Am} (h:∀L,(nT L).get f=some λR=>ar1 (F L R)) (g:∀_:Nat,oT.get f=none):LB f F:= λL n a H K=>A7u (F:=F L) (h L) (g 0) n a H K
abbrev Sp (f:Nat) (F:Nat→Rt→AV→AV→Hp→KV→Am):Prop:=∀(L n:Nat) (a b:AV) (H:Hp) (K:KV),(rt L (n+1)).call f [a,b] H K=F L (rt L n) a b H K
theorem Sz {f:Nat} {F:Nat→Rt→AV→AV→Hp→KV→Am} (h:∀L,(nT L).get f=some λR=>ar2 (F L R)) (g:∀_:Nat,oT.get f=none):Sp f F:= λL n a b H K=>A7t (F:=F L) (h L) (g 0) n a b H K
abbrev CN3 (f:Nat) (F:Nat→Rt→AV→AV→AV→Hp→KV→Am):Prop:=∀(L n:Nat) (a b c:AV) (H:Hp) (K:KV),(rt L (n+1)).call f [a,b,c] H K=F L (rt L n) a b c H K
theorem cN3 {f:Nat} {F:Nat→Rt→AV→AV→AV→Hp→KV→Am} (h:∀L,(nT L).get f=some λR=>ar3 (F L R)) (g:∀_:Nat,oT.get f=none):CN3 f F:= λL n a b c H K=>A7s (F:=F L) (h L) (g 0) n a b c H K
abbrev CN4 (f:Nat) (F:Nat→Rt→AV→AV→AV→AV→Hp→KV→Am):Prop:=∀(L n:Nat) (a b c d:AV) (H:Hp) (K:KV),(rt L (n+1)).call f [a,b,c,d] H K=F L (rt L n) a b c d H K
theorem cN4 {f:Nat} {F:Nat→Rt→AV→AV→AV→AV→Hp→KV→Am} (h:∀L,(nT L).get f=some λR=>ar4 (F L R)) (g:∀_:Nat,oT.get f=none):CN4 f F:= λL n a b c d H K=>A7r (F:=F L) (h L) (g 0) n a b c d H K
theorem QJ:CN3 LC I6:=cN3 (λ_=>rfl) (λ_=>rfl)
theorem A0t:CN0 Sd RH:=cN0 (λ_=>rfl) (λ_=>rfl)
theorem A0f:LB RY Rx:=XA4 (λ_=>rfl) (λ_=>rfl)
theorem A1P:LB GG Tk:=XA4 (λ_=>rfl) (λ_=>rfl)
theorem YH:LB MI PZ:=XA4 (λ_=>rfl) (λ_=>rfl)
theorem N0:Sp E8 IF:=Sz (λ_=>rfl) (λ_=>rfl)
theorem A1Q:Sp HD Tl:=Sz (λ_=>rfl) (λ_=>rfl)
theorem A0u:Sp Ia RI:=Sz (λ_=>rfl) (λ_=>rfl)
theorem UP:Sp Bz LW:=Sz (λ_=>rfl) (λ_=>rfl)
theorem YE:CN3 JO PW:=cN3 (λ_=>rfl) (λ_=>rfl)
theorem VM:LB JX Nq:=XA4 (λ_=>rfl) (λ_=>rfl)
theorem YI:LB MJ Qa:=XA4 (λ_=>rfl) (λ_=>rfl)
theorem SD:LB DB J4:=XA4 (λ_=>rfl) (λ_=>rfl)
theorem SE:Sp EB J5:=Sz (λ_=>rfl) (λ_=>rfl)
theorem Xl:LB Fm O1:=XA4 (λ_=>rfl) (λ_=>rfl)
theorem VG:LB Gb R8:=XA4 (λ_=>rfl) (λ_=>rfl)
theorem YJ:LB MK Qb:=XA4 (λ_=>rfl) (λ_=>rfl)
theorem Ts:Sp Ib NK:=Sz (λ_=>rfl) (λ_=>rfl)
theorem Ss:LB Hd MF:=XA4 (λ_=>rfl) (λ_=>rfl)
theorem A0e:Sp Jx Rw:=Sz (λ_=>rfl) (λ_=>rfl)
theorem A0j:CN4 Ln R7:=cN4 (λ_=>rfl) (λ_=>rfl)
theorem VL:LB E7 RK:=XA4 (λ_=>rfl) (λ_=>rfl)
theorem HT:CN4 BZ Fl:=cN4 (λ_=>rfl) (λ_=>rfl)
theorem A0g:Sp RZ Ry:=Sz (λ_=>rfl) (λ_=>rfl)
theorem A1X:LB Na Tq:=XA4 (λ_=>rfl) (λ_=>rfl)
theorem VF:LB CU Nn:=XA4 (λ_=>rfl) (λ_=>rfl)
theorem To:LB Jy NG:=XA4 (λ_=>rfl) (λ_=>rfl)
theorem A0h:Sp Bw R4:=Sz (λ_=>rfl) (λ_=>rfl)
theorem A0o:CN3 NO RF:=cN3 (λ_=>rfl) (λ_=>rfl)
theorem Tp:LB E3 RA:=XA4 (λ_=>rfl) (λ_=>rfl)
theorem A0l:CN4 NN RB:=cN4 (λ_=>rfl) (λ_=>rfl)
theorem Tn:LB HZ R6:=XA4 (λ_=>rfl) (λ_=>rfl)
theorem UQ:LB Jz LY:=XA4 (λ_=>rfl) (λ_=>rfl)
theorem NJ:Sp EI Gs:=Sz (λ_=>rfl) (λ_=>rfl)
theorem Ju:Sp DL DJ:=Sz (λ_=>rfl) (λ_=>rfl)
theorem PM:LB HX HS:=XA4 (λ_=>rfl) (λ_=>rfl)
theorem Yy:LB Qh PN:=XA4 (λ_=>rfl) (λ_=>rfl)
theorem UN:LB Mn LR:=XA4 (λ_=>rfl) (λ_=>rfl)
theorem YC:Sp Qk PV:=Sz (λ_=>rfl) (λ_=>rfl)
theorem Ht:LB Du FX:=XA4 (λ_=>rfl) (λ_=>rfl)
theorem A0i:LB Lm R5:=XA4 (λ_=>rfl) (λ_=>rfl)
theorem A0n:Sp GI RE:=Sz (λ_=>rfl) (λ_=>rfl)
theorem A0k:Sp BH R9:=Sz (λ_=>rfl) (λ_=>rfl)
theorem Fh:CN4 BU EZ:=cN4 (λ_=>rfl) (λ_=>rfl)
theorem Tt:LB Ic Ko:=XA4 (λ_=>rfl) (λ_=>rfl)
theorem A0w:LB NQ RL:=XA4 (λ_=>rfl) (λ_=>rfl)
theorem OZ:LB Hy Hr:=XA4 (λ_=>rfl) (λ_=>rfl)
theorem VH:Sp Cv No:=Sz (λ_=>rfl) (λ_=>rfl)
theorem Ua:CN0 Lp KS:=cN0 (λ_=>rfl) (λ_=>rfl)
theorem Y3:LB FM PU:=XA4 (λ_=>rfl) (λ_=>rfl)
theorem Xk:CN3 CC O0:=cN3 (λ_=>rfl) (λ_=>rfl)
theorem Pn:LB EC JS:=XA4 (λ_=>rfl) (λ_=>rfl)
theorem Y0:LB DN PQ:=XA4 (λ_=>rfl) (λ_=>rfl)
theorem Sq:LB El ME:=XA4 (λ_=>rfl) (λ_=>rfl)
theorem Yz:LB DM PP:=XA4 (λ_=>rfl) (λ_=>rfl)
theorem Y1:LB GY PR:=XA4 (λ_=>rfl) (λ_=>rfl)
theorem QH:CN3 Dv KR:=cN3 (λ_=>rfl) (λ_=>rfl)
theorem GS:LB CQ Ev:=XA4 (λ_=>rfl) (λ_=>rfl)
theorem Lb:Sp Bx ET:=Sz (λ_=>rfl) (λ_=>rfl)
theorem LV:Sp BL Fz:=Sz (λ_=>rfl) (λ_=>rfl)
theorem L6:Sp BY Fk:=Sz (λ_=>rfl) (λ_=>rfl)
theorem Ue:LB E6 KX:=XA4 (λ_=>rfl) (λ_=>rfl)
theorem Pb:LB Fu Hu:=XA4 (λ_=>rfl) (λ_=>rfl)
theorem Np:LB CD FY:=XA4 (λ_=>rfl) (λ_=>rfl)
theorem MP:Sp IG FB:=Sz (λ_=>rfl) (λ_=>rfl)
theorem RG:Sp Je IZ:=Sz (λ_=>rfl) (λ_=>rfl)
theorem QL:LB EN I7:=XA4 (λ_=>rfl) (λ_=>rfl)
theorem Jv:Sp FK DK:=Sz (λ_=>rfl) (λ_=>rfl)
theorem Y2:LB MH PT:=XA4 (λ_=>rfl) (λ_=>rfl)
theorem Ub:LB Lq KT:=XA4 (λ_=>rfl) (λ_=>rfl)
theorem A0m:LB GH RC:=XA4 (λ_=>rfl) (λ_=>rfl)
theorem Xm:CN3 Cn O2:=cN3 (λ_=>rfl) (λ_=>rfl)
theorem RM:CN3 BM Ja:=cN3 (λ_=>rfl) (λ_=>rfl)
theorem Xr:LB Hz OA:=XA4 (λ_=>rfl) (λ_=>rfl)
theorem O8:LB CY GT:=XA4 (λ_=>rfl) (λ_=>rfl)
theorem UM:LB Mm LQ:=XA4 (λ_=>rfl) (λ_=>rfl)
theorem K6:Sp Bp EE:=Sz (λ_=>rfl) (λ_=>rfl)
theorem Ud:LB DF KW:=XA4 (λ_=>rfl) (λ_=>rfl)
theorem UO:LB Ec XA5:=XA4 (λ_=>rfl) (λ_=>rfl)
theorem Km:CN3 GF Et:=cN3 (λ_=>rfl) (λ_=>rfl)
theorem Ui:LB Lv Lc:=XA4 (λ_=>rfl) (λ_=>rfl)
theorem Xq:Sp Dw O7:=Sz (λ_=>rfl) (λ_=>rfl)
theorem Xn:LB Lo O3:=XA4 (λ_=>rfl) (λ_=>rfl)
theorem Tu:LB Ge Kq:=XA4 (λ_=>rfl) (λ_=>rfl)
theorem LZ:Sp DT F1:=Sz (λ_=>rfl) (λ_=>rfl)
theorem VN:LB Iq Nr:=XA4 (λ_=>rfl) (λ_=>rfl)
theorem Hq:Sp Ci CP:=Sz (λ_=>rfl) (λ_=>rfl)
theorem O9:LB Fc GU:=XA4 (λ_=>rfl) (λ_=>rfl)
theorem I4:Sp Cx Dt:=Sz (λ_=>rfl) (λ_=>rfl)
theorem L4:LB HE Fi:=XA4 (λ_=>rfl) (λ_=>rfl)
theorem Uf:LB II KY:=XA4 (λ_=>rfl) (λ_=>rfl)
theorem O5:Sp Fa GR:=Sz (λ_=>rfl) (λ_=>rfl)
theorem Im:Sp Dn Dl:=Sz (λ_=>rfl) (λ_=>rfl)
theorem LX:LB CV F0:=XA4 (λ_=>rfl) (λ_=>rfl)
theorem Kl:LB E2 Es:=XA4 (λ_=>rfl) (λ_=>rfl)
theorem JK:LB CX Eh:=XA4 (λ_=>rfl) (λ_=>rfl)
theorem QI:LB EL I5:=XA4 (λ_=>rfl) (λ_=>rfl)
theorem Ho:Sp Ch CO:=Sz (λ_=>rfl) (λ_=>rfl)
theorem Uc:LB Lt KU:=XA4 (λ_=>rfl) (λ_=>rfl)
theorem NI:Sp Gt Gr:=Sz (λ_=>rfl) (λ_=>rfl)
theorem La:Sp CF ES:=Sz (λ_=>rfl) (λ_=>rfl)
theorem NH:Sp D8 Gq:=Sz (λ_=>rfl) (λ_=>rfl)
theorem Kn:Sp Cy Eu:=Sz (λ_=>rfl) (λ_=>rfl)
theorem L5:Sp CL Fj:=Sz (λ_=>rfl) (λ_=>rfl)
theorem KZ:Sp CE ER:=Sz (λ_=>rfl) (λ_=>rfl)
theorem MQ:Sp Di FC:=Sz (λ_=>rfl) (λ_=>rfl)
theorem IK:Sp D6 D5:=Sz (λ_=>rfl) (λ_=>rfl)
theorem Il:Sp Dm Dk:=Sz (λ_=>rfl) (λ_=>rfl)
end Go.Proofs
end
