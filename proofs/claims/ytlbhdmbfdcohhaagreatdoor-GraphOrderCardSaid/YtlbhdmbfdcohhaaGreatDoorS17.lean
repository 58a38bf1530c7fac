import Derived.KernelRfl
import Derived.Test.YtlbhdmbfdcohhaaGreatDoorS11
import Derived.Test.YtlbhdmbfdcohhaaGreatDoorS12
import Derived.Test.YtlbhdmbfdcohhaaGreatDoorS13
import Derived.Test.YtlbhdmbfdcohhaaGreatDoorS14
import Derived.Test.YtlbhdmbfdcohhaaGreatDoorS15
import Derived.Test.YtlbhdmbfdcohhaaGreatDoorS16
set_option linter.all false
set_option maxHeartbeats 100000000
noncomputable section
namespace Go.Proofs
open Go.Abs
set_option maxRecDepth 100000
abbrev aN0 (F:Rt→Hp→KV→Aj):NF:= λR=>ar0 (F R)
abbrev Jr (F:Rt→AV→Hp→KV→Aj):NF:= λR=>ar1 (F R)
abbrev XA4 (F:Rt→AV→AV→Hp→KV→Aj):NF:= λR=>ar2 (F R)
abbrev aN3 (F:Rt→AV→AV→AV→Hp→KV→Aj):NF:= λR=>ar3 (F R)
abbrev aN4 (F:Rt→AV→AV→AV→AV→Hp→KV→Aj):NF:= λR=>ar4 (F R)
def nT (L:Nat):BT NF:=(A5 149 (Jr (J5 L)) (A5 59 (Jr (Nt L)) (A5 31 (Jr (SZ L)) (A5 20 (Jr (Rq L)) (A5 11 (Jr (Oa L)) (A5 9 (Jr (SK L)) (A5 8 (aN0 (SY L)) (Bg 3 (Jr (Lu L))) BU) (Bg 10 (Jr (Ux L)))) (A5 14 (XA4 (Uy L)) (A5 13 (XA4 (HN L)) (Bg 12 (XA4 (Wd L))) BU) (Bg 16 (XA4 (Nr L))))) (A5 25 (Jr (Rr L)) (A5 23 (Jr (Qb L)) (A5 22 (XA4 (K3 L)) (Bg 21 (Jr (K1 L))) BU) (Bg 24 (Jr (SP L)))) (A5 29 (XA4 (SJ L)) (A5 27 (Jr (NZ L)) (Bg 26 (XA4 (Pi L))) BU) (Bg 30 (aN4 (SO L)))))) (A5 41 (aN4 (FU L)) (A5 36 (XA4 (My L)) (A5 34 (XA4 (Es L)) (A5 33 (XA4 (J3 L)) (Bg 32 (Jr (J4 L))) BU) (Bg 35 (Jr (K4 L)))) (A5 39 (Jr (Fp L)) (A5 38 (XA4 (Mx L)) (Bg 37 (Jr (FO L))) BU) (Bg 40 (Jr (Lv L))))) (A5 55 (aN3 (SW L)) (A5 45 (Jr (Pf L)) (A5 44 (Jr (OI L)) (Bg 43 (Jr (UB L))) BU) (Bg 54 (XA4 (SL L)))) (A5 57 (aN4 (SS L)) (Bg 56 (Jr (SR L))) (Bg 58 (Jr (SN L))))))) (A5 97 (aN0 (Mm L)) (A5 70 (Jr (SM L)) (A5 64 (Jr (DF L)) (A5 62 (Jr (EW L)) (A5 61 (XA4 (Dt L)) (Bg 60 (XA4 (Fu L))) BU) (Bg 63 (Jr (CM L)))) (A5 68 (Jr (A1I L)) (A5 67 (XA4 (Rn L)) (Bg 66 (Jr (No L))) BU) (Bg 69 (Jr (GW L))))) (A5 91 (Jr (Ta L)) (A5 89 (aN4 (FD L)) (A5 86 (XA4 (SQ L)) (Bg 84 (XA4 (SU L))) BU) (Bg 90 (Jr (Lw L)))) (A5 95 (XA4 (Df L)) (A5 94 (XA4 (Cw L)) (Bg 92 (Jr (EF L))) BU) (Bg 96 (XA4 (OJ L)))))) (A5 137 (Jr (EZ L)) (A5 105 (Jr (Rh L)) (A5 101 (aN3 (Qa L)) (A5 100 (Jr (Rm L)) (Bg 98 (Jr (A1H L))) BU) (Bg 104 (Jr (KY L)))) (A5 109 (Jr (Rj L)) (A5 108 (Jr (Rg L)) (Bg 107 (Jr (NY L))) BU) (Bg 133 (aN3 (Ml L))))) (A5 145 (Jr (I4 L)) (A5 143 (XA4 (FT L)) (A5 142 (XA4 (Gp L)) (Bg 140 (XA4 (F8 L))) BU) (Bg 144 (Jr (Mr L)))) (A5 147 (XA4 (G8 L)) (Bg 146 (Jr (GX L))) (Bg 148 (XA4 (JX L)))))))) (A5 253 (Jr (Mt L)) (A5 201 (aN3 (EX L)) (A5 177 (XA4 (A4Q L)) (A5 166 (Jr (XA7 L)) (A5 160 (Jr (Rk L)) (A5 153 (Jr (A35 L)) (Bg 150 (XA4 (C8 L))) BU) (Bg 164 (Jr (Mn L)))) (A5 175 (XA4 (A6G L)) (A5 173 (XA4 (ZW L)) (Bg 172 (Jr (A38 L))) BU) (Bg 176 (XA4 (A6H L))))) (A5 191 (Jr (Nn L)) (A5 185 (Jr (Qi L)) (A5 183 (aN3 (JY L)) (Bg 180 (aN3 (Qc L))) BU) (Bg 186 (Jr (Ii L)))) (A5 199 (Jr (Mq L)) (A5 193 (XA4 (Fq L)) (Bg 192 (Jr (A32 L))) BU) (Bg 200 (Jr (Np L)))))) (A5 230 (Jr (Y2 L)) (A5 220 (Jr (A1G L)) (A5 213 (XA4 (A6F L)) (A5 203 (XA4 (Qf L)) (Bg 202 (Jr (Mz L))) BU) (Bg 217 (Jr (Qd L)))) (A5 224 (XA4 (ZV L)) (A5 223 (XA4 (ZU L)) (Bg 221 (XA4 (A36 L))) BU) (Bg 226 (XA4 (A37 L))))) (A5 241 (Jr (Ij L)) (A5 239 (Jr (OL L)) (A5 238 (XA4 (Gr L)) (Bg 235 (Jr (Lx L))) BU) (Bg 240 (XA4 (D1 L)))) (A5 249 (Jr (A31 L)) (Bg 247 (XA4 (DU L))) (Bg 250 (Jr (FQ L))))))) (A5 290 (XA4 (FR L)) (A5 272 (Jr (EM L)) (A5 265 (XA4 (A3a L)) (A5 263 (Jr (ZZ L)) (A5 261 (Jr (A4P L)) (Bg 255 (XA4 (Ig L))) BU) (Bg 264 (XA4 (Xe L)))) (A5 270 (Jr (Gq L)) (A5 269 (XA4 (DP L)) (Bg 266 (XA4 (A3b L))) BU) (Bg 271 (Jr (EV L))))) (A5 282 (XA4 (Hy L)) (A5 280 (XA4 (D0 L)) (A5 279 (Jr (J2 L)) (Bg 275 (XA4 (WZ L))) BU) (Bg 281 (Jr (Mp L)))) (A5 288 (XA4 (Hv L)) (Bg 285 (XA4 (F7 L))) (Bg 289 (XA4 (EY L)))))) (A5 323 (Jr (ZY L)) (A5 298 (XA4 (Rp L)) (A5 296 (Jr (Xd L)) (A5 292 (XA4 (G9 L)) (Bg 291 (XA4 (F6 L))) BU) (Bg 297 (XA4 (A1K L)))) (A5 305 (XA4 (Ej L)) (A5 300 (Jr (TK L)) (Bg 299 (XA4 (TL L))) BU) (Bg 314 (XA4 (DO L))))) (A5 331 (aN3 (Oj L)) (A5 327 (XA4 (V7 L)) (A5 326 (Jr (Ro L)) (Bg 325 (Jr (K0 L))) BU) (Bg 328 (aN3 (QC L)))) (A5 364 (XA4 (Jl L)) (Bg 333 (XA4 (V8 L))) (Bg 365 (aN3 (RW L)))))))))
set_option maxHeartbeats 100000000 in
theorem C4S (L:Nat):(nT L).All (Lk (E L)):=by
 unfold nT
 repeat' first|exact A5x|apply A5w
 all_goals as_aux_lemma=>first|exact lk0 λ_ _ _=>by kernel_rfl|exact lk1 λ_ _ _ _=>by kernel_rfl|exact lk2 λ_ _ _ _ _=>by kernel_rfl|exact lk3 λ_ _ _ _ _ _=>by kernel_rfl|exact lk4 λ_ _ _ _ _ _ _=>by kernel_rfl|exact lk5 λ_ _ _ _ _ _ _ _=>by kernel_rfl
def oT:BT OF:= .node 198 B4w (.node 93 WM .leaf .leaf) (.node 330 A4A .leaf .leaf)
def rt (L n:Nat):Rt:=Tc (E L) (nT L) oT n
abbrev CN0 (f:Nat) (F:Nat→Rt→Hp→KV→Aj):Prop:=∀(L n:Nat) (H:Hp) (K:KV),(rt L (n+1)).call f [] H K=F L (rt L n) H K
theorem cN0 {f:Nat} {F:Nat→Rt→Hp→KV→Aj} (h:∀L,(nT L).get f=some λR=>ar0 (F L R)) (g:∀_:Nat,oT.get f=none):CN0 f F:= λL n H K=>A8M (F:=F L) (h L) (g 0) n H K
abbrev L3 (f:Nat) (F:Nat→Rt→AV→Hp→KV→Aj):Prop:=∀(L n:Nat) (a:AV) (H:Hp) (K:KV),(rt L (n+1)).call f [a] H K=F L (rt L n) a H K
theorem LB {f:Nat} {F:Nat→Rt→AV→Hp→KV→Aj} (h:∀L,(nT L).get f=some λR=>ar1 (F L R)) (g:∀_:Nat,oT.get f=none):L3 f F:= λL n a H K=>A8L (F:=F L) (h L) (g 0) n a H K
abbrev QQ (f:Nat) (F:Nat→Rt→AV→AV→Hp→KV→Aj):Prop:=∀(L n:Nat) (a b:AV) (H:Hp) (K:KV),(rt L (n+1)).call f [a,b] H K=F L (rt L n) a b H K
theorem R9 {f:Nat} {F:Nat→Rt→AV→AV→Hp→KV→Aj} (h:∀L,(nT L).get f=some λR=>ar2 (F L R)) (g:∀_:Nat,oT.get f=none):QQ f F:= λL n a b H K=>A8K (F:=F L) (h L) (g 0) n a b H K
abbrev CN3 (f:Nat) (F:Nat→Rt→AV→AV→AV→Hp→KV→Aj):Prop:=∀(L n:Nat) (a b c:AV) (H:Hp) (K:KV),(rt L (n+1)).call f [a,b,c] H K=F L (rt L n) a b c H K
theorem cN3 {f:Nat} {F:Nat→Rt→AV→AV→AV→Hp→KV→Aj} (h:∀L,(nT L).get f=some λR=>ar3 (F L R)) (g:∀_:Nat,oT.get f=none):CN3 f F:= λL n a b c H K=>A8J (F:=F L) (h L) (g 0) n a b c H K
abbrev CN4 (f:Nat) (F:Nat→Rt→AV→AV→AV→AV→Hp→KV→Aj):Prop:=∀(L n:Nat) (a b c d:AV) (H:Hp) (K:KV),(rt L (n+1)).call f [a,b,c,d] H K=F L (rt L n) a b c d H K
theorem cN4 {f:Nat} {F:Nat→Rt→AV→AV→AV→AV→Hp→KV→Aj} (h:∀L,(nT L).get f=some λR=>ar4 (F L R)) (g:∀_:Nat,oT.get f=none):CN4 f F:= λL n a b c d H K=>A8I (F:=F L) (h L) (g 0) n a b c d H K
theorem UC:L3 Qt Lu:=LB (λ_=>rfl) (λ_=>rfl)
theorem A1J:CN0 To SY:=cN0 (λ_=>rfl) (λ_=>rfl)
theorem A1x:L3 Tj SK:=LB (λ_=>rfl) (λ_=>rfl)
theorem A33:L3 IA Ux:=LB (λ_=>rfl) (λ_=>rfl)
theorem T3:L3 Iq Oa:=LB (λ_=>rfl) (λ_=>rfl)
theorem A4R:QQ Ja Wd:=R9 (λ_=>rfl) (λ_=>rfl)
theorem K5:QQ Du HN:=R9 (λ_=>rfl) (λ_=>rfl)
theorem A34:QQ IB Uy:=R9 (λ_=>rfl) (λ_=>rfl)
theorem We:QQ F9 Nr:=R9 (λ_=>rfl) (λ_=>rfl)
theorem A00:L3 Oc Rq:=LB (λ_=>rfl) (λ_=>rfl)
theorem TH:L3 Eu K1:=LB (λ_=>rfl) (λ_=>rfl)
theorem TJ:QQ Fk K3:=R9 (λ_=>rfl) (λ_=>rfl)
theorem Yz:L3 FZ Qb:=LB (λ_=>rfl) (λ_=>rfl)
theorem Xb:L3 Hf SP:=LB (λ_=>rfl) (λ_=>rfl)
theorem A01:L3 Od Rr:=LB (λ_=>rfl) (λ_=>rfl)
theorem UF:QQ Jc Pi:=R9 (λ_=>rfl) (λ_=>rfl)
theorem T2:L3 Ip NZ:=LB (λ_=>rfl) (λ_=>rfl)
theorem A1w:QQ Kr SJ:=R9 (λ_=>rfl) (λ_=>rfl)
theorem A1A:CN4 MH SO:=cN4 (λ_=>rfl) (λ_=>rfl)
theorem Xf:L3 ED SZ:=LB (λ_=>rfl) (λ_=>rfl)
theorem RY:L3 E1 J4:=LB (λ_=>rfl) (λ_=>rfl)
theorem RX:QQ F0 J3:=R9 (λ_=>rfl) (λ_=>rfl)
theorem JW:QQ Cx Es:=R9 (λ_=>rfl) (λ_=>rfl)
theorem TM:L3 Iv K4:=LB (λ_=>rfl) (λ_=>rfl)
theorem VA:QQ JH My:=R9 (λ_=>rfl) (λ_=>rfl)
theorem MX:L3 FY FO:=LB (λ_=>rfl) (λ_=>rfl)
theorem V9:QQ HV Mx:=R9 (λ_=>rfl) (λ_=>rfl)
theorem LI:L3 XA2 Fp:=LB (λ_=>rfl) (λ_=>rfl)
theorem UE:L3 Jb Lv:=LB (λ_=>rfl) (λ_=>rfl)
theorem IS:CN4 Cn FU:=cN4 (λ_=>rfl) (λ_=>rfl)
theorem A39:L3 Ow UB:=LB (λ_=>rfl) (λ_=>rfl)
theorem Xa:L3 D5 OI:=LB (λ_=>rfl) (λ_=>rfl)
theorem U9:L3 Ks Pf:=LB (λ_=>rfl) (λ_=>rfl)
theorem A1y:QQ B5 SL:=R9 (λ_=>rfl) (λ_=>rfl)
theorem A1F:CN3 Pm SW:=cN3 (λ_=>rfl) (λ_=>rfl)
theorem UA:L3 Ff SR:=LB (λ_=>rfl) (λ_=>rfl)
theorem A1C:CN4 Pk SS:=cN4 (λ_=>rfl) (λ_=>rfl)
theorem Uz:L3 IZ SN:=LB (λ_=>rfl) (λ_=>rfl)
theorem Wg:L3 Kt Nt:=LB (λ_=>rfl) (λ_=>rfl)
theorem JE:QQ CO Fu:=R9 (λ_=>rfl) (λ_=>rfl)
theorem Gh:QQ C9 Dt:=R9 (λ_=>rfl) (λ_=>rfl)
theorem Ie:L3 Em EW:=LB (λ_=>rfl) (λ_=>rfl)
theorem GY:L3 CN CM:=LB (λ_=>rfl) (λ_=>rfl)
theorem IR:L3 Fz DF:=LB (λ_=>rfl) (λ_=>rfl)
theorem Wb:L3 XA6 No:=LB (λ_=>rfl) (λ_=>rfl)
theorem ZX:QQ Rx Rn:=R9 (λ_=>rfl) (λ_=>rfl)
theorem I3:L3 DW GW:=LB (λ_=>rfl) (λ_=>rfl)
theorem A1z:L3 MG SM:=LB (λ_=>rfl) (λ_=>rfl)
theorem A1E:QQ HT SU:=R9 (λ_=>rfl) (λ_=>rfl)
theorem A1B:QQ BO SQ:=R9 (λ_=>rfl) (λ_=>rfl)
theorem FP:CN4 Ci FD:=cN4 (λ_=>rfl) (λ_=>rfl)
theorem UG:L3 Jd Lw:=LB (λ_=>rfl) (λ_=>rfl)
theorem A1L:L3 Pn Ta:=LB (λ_=>rfl) (λ_=>rfl)
theorem Hu:L3 EH EF:=LB (λ_=>rfl) (λ_=>rfl)
theorem Gc:QQ Cy Cw:=R9 (λ_=>rfl) (λ_=>rfl)
theorem HM:QQ Dg Df:=R9 (λ_=>rfl) (λ_=>rfl)
theorem Xc:QQ CP OJ:=R9 (λ_=>rfl) (λ_=>rfl)
theorem V1:CN0 MJ Mm:=cN0 (λ_=>rfl) (λ_=>rfl)
theorem ZT:L3 GI Rm:=LB (λ_=>rfl) (λ_=>rfl)
theorem Yy:CN3 Dn Qa:=cN3 (λ_=>rfl) (λ_=>rfl)
theorem QL:L3 Fm KY:=LB (λ_=>rfl) (λ_=>rfl)
theorem ZQ:L3 E3 Rh:=LB (λ_=>rfl) (λ_=>rfl)
theorem Tz:L3 EP NY:=LB (λ_=>rfl) (λ_=>rfl)
theorem ZP:L3 E2 Rg:=LB (λ_=>rfl) (λ_=>rfl)
theorem ZR:L3 Il Rj:=LB (λ_=>rfl) (λ_=>rfl)
theorem RS:CN3 DX Ml:=cN3 (λ_=>rfl) (λ_=>rfl)
theorem Ih:L3 D3 EZ:=LB (λ_=>rfl) (λ_=>rfl)
theorem Mw:QQ B6 F8:=R9 (λ_=>rfl) (λ_=>rfl)
theorem Nq:QQ BV Gp:=R9 (λ_=>rfl) (λ_=>rfl)
theorem Na:QQ Cm FT:=R9 (λ_=>rfl) (λ_=>rfl)
theorem V5:L3 Fi Mr:=LB (λ_=>rfl) (λ_=>rfl)
theorem QB:L3 Gj I4:=LB (λ_=>rfl) (λ_=>rfl)
theorem OK:L3 Do GX:=LB (λ_=>rfl) (λ_=>rfl)
theorem Oh:QQ JF G8:=R9 (λ_=>rfl) (λ_=>rfl)
theorem SX:QQ Kb JX:=R9 (λ_=>rfl) (λ_=>rfl)
theorem RZ:L3 F1 J5:=LB (λ_=>rfl) (λ_=>rfl)
theorem Ek:QQ GG C8:=R9 (λ_=>rfl) (λ_=>rfl)
theorem ZS:L3 Ob Rk:=LB (λ_=>rfl) (λ_=>rfl)
theorem V2:L3 MK Mn:=LB (λ_=>rfl) (λ_=>rfl)
theorem A1D:L3 HS XA7:=LB (λ_=>rfl) (λ_=>rfl)
theorem Y0:CN3 CF Qc:=cN3 (λ_=>rfl) (λ_=>rfl)
theorem Tb:CN3 BW JY:=cN3 (λ_=>rfl) (λ_=>rfl)
theorem Y5:L3 I6 Qi:=LB (λ_=>rfl) (λ_=>rfl)
theorem Qg:L3 D9 Ii:=LB (λ_=>rfl) (λ_=>rfl)
theorem Wa:L3 NC Nn:=LB (λ_=>rfl) (λ_=>rfl)
theorem LJ:QQ B0 Fq:=R9 (λ_=>rfl) (λ_=>rfl)
theorem V4:L3 Ey Mq:=LB (λ_=>rfl) (λ_=>rfl)
theorem Wc:L3 EI Np:=LB (λ_=>rfl) (λ_=>rfl)
theorem Lr:CN3 HR EX:=cN3 (λ_=>rfl) (λ_=>rfl)
theorem VB:L3 MO Mz:=LB (λ_=>rfl) (λ_=>rfl)
theorem Y3:QQ DY Qf:=R9 (λ_=>rfl) (λ_=>rfl)
theorem Y1:L3 MI Qd:=LB (λ_=>rfl) (λ_=>rfl)
theorem UH:L3 Hh Lx:=LB (λ_=>rfl) (λ_=>rfl)
theorem Nu:QQ E9 Gr:=R9 (λ_=>rfl) (λ_=>rfl)
theorem Xg:L3 Jq OL:=LB (λ_=>rfl) (λ_=>rfl)
theorem I2:QQ C5 D1:=R9 (λ_=>rfl) (λ_=>rfl)
theorem Qh:L3 FG Ij:=LB (λ_=>rfl) (λ_=>rfl)
theorem J1:QQ CW DU:=R9 (λ_=>rfl) (λ_=>rfl)
theorem MY:L3 IC FQ:=LB (λ_=>rfl) (λ_=>rfl)
theorem V6:L3 JG Mt:=LB (λ_=>rfl) (λ_=>rfl)
theorem Qe:QQ FF Ig:=R9 (λ_=>rfl) (λ_=>rfl)
theorem Jk:QQ DR DP:=R9 (λ_=>rfl) (λ_=>rfl)
theorem Ns:L3 D6 Gq:=LB (λ_=>rfl) (λ_=>rfl)
theorem Lq:L3 XA1 EV:=LB (λ_=>rfl) (λ_=>rfl)
theorem KN:L3 D8 EM:=LB (λ_=>rfl) (λ_=>rfl)
theorem RU:L3 Fy J2:=LB (λ_=>rfl) (λ_=>rfl)
theorem I0:QQ C4 D0:=R9 (λ_=>rfl) (λ_=>rfl)
theorem V3:L3 MM Mp:=LB (λ_=>rfl) (λ_=>rfl)
theorem Ph:QQ HC Hy:=R9 (λ_=>rfl) (λ_=>rfl)
theorem Mv:QQ Dq F7:=R9 (λ_=>rfl) (λ_=>rfl)
theorem Pg:QQ Eo Hv:=R9 (λ_=>rfl) (λ_=>rfl)
theorem Lt:QQ CX EY:=R9 (λ_=>rfl) (λ_=>rfl)
theorem MZ:QQ Dw FR:=R9 (λ_=>rfl) (λ_=>rfl)
theorem Mu:QQ Dp F6:=R9 (λ_=>rfl) (λ_=>rfl)
theorem Oi:QQ DJ G9:=R9 (λ_=>rfl) (λ_=>rfl)
theorem JK:QQ El Ej:=R9 (λ_=>rfl) (λ_=>rfl)
theorem Jj:QQ DQ DO:=R9 (λ_=>rfl) (λ_=>rfl)
end Go.Proofs
end
