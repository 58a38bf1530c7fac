import Derived.KernelRfl
import Derived.Test.YtlbhdmbfdcohhaaGreatDoorT11
import Derived.Test.YtlbhdmbfdcohhaaGreatDoorT12
import Derived.Test.YtlbhdmbfdcohhaaGreatDoorT13
import Derived.Test.YtlbhdmbfdcohhaaGreatDoorT14
import Derived.Test.YtlbhdmbfdcohhaaGreatDoorT15
import Derived.Test.YtlbhdmbfdcohhaaGreatDoorT16
set_option linter.all false
set_option maxHeartbeats 100000000
noncomputable section
namespace Go.Proofs
open Go.Abs
set_option maxRecDepth 100000
abbrev aN0 (F:Rt→Hp→KV→Aj):NF:= λR=>ar0 (F R)
abbrev J5 (F:Rt→AV→Hp→KV→Aj):NF:= λR=>ar1 (F R)
abbrev Nf (F:Rt→AV→AV→Hp→KV→Aj):NF:= λR=>ar2 (F R)
abbrev aN3 (F:Rt→AV→AV→AV→Hp→KV→Aj):NF:= λR=>ar3 (F R)
abbrev aN4 (F:Rt→AV→AV→AV→AV→Hp→KV→Aj):NF:= λR=>ar4 (F R)
def nT (L:Nat):BT NF:=(A5 145 (J5 (IA L)) (A5 57 (aN4 (SU L)) (A5 30 (aN4 (SQ L)) (A5 20 (J5 (Ob L)) (A5 11 (J5 (Oa L)) (A5 9 (J5 (SM L)) (A5 8 (aN0 (Ta L)) (Be 7 (J5 (Lr L))) BZ) (Be 10 (J5 (U9 L)))) (A5 14 (Nf (UA L)) (A5 13 (Nf (HQ L)) (Be 12 (Nf (Wj L))) BZ) (Be 16 (Nf (Nr L))))) (A5 25 (J5 (Rq L)) (A5 23 (J5 (Qb L)) (A5 22 (Nf (Kz L)) (Be 21 (J5 (Ky L))) BZ) (Be 24 (J5 (SR L)))) (A5 27 (J5 (NZ L)) (Be 26 (Nf (Pi L))) (Be 29 (Nf (SL L)))))) (A5 39 (J5 (Fu L)) (A5 35 (J5 (K0 L)) (A5 33 (Nf (J0 L)) (A5 32 (J5 (J1 L)) (Be 31 (J5 (Tb L))) BZ) (Be 34 (Nf (Ew L)))) (A5 37 (J5 (FU L)) (Be 36 (Nf (My L))) (Be 38 (Nf (Mx L))))) (A5 45 (J5 (Pf L)) (A5 43 (J5 (UF L)) (A5 41 (aN4 (FZ L)) (Be 40 (J5 (Lt L))) BZ) (Be 44 (J5 (OG L)))) (A5 55 (aN3 (SY L)) (Be 54 (Nf (SN L))) (Be 56 (J5 (XA7 L))))))) (A5 94 (Nf (Cy L)) (A5 68 (J5 (A1L L)) (A5 62 (J5 (Fb L)) (A5 60 (Nf (F0 L)) (A5 59 (J5 (Nt L)) (Be 58 (J5 (SP L))) BZ) (Be 61 (Nf (Dq L)))) (A5 66 (J5 (No L)) (A5 64 (J5 (DF L)) (Be 63 (J5 (CN L))) BZ) (Be 67 (Nf (Rn L))))) (A5 89 (aN4 (FK L)) (A5 84 (Nf (SX L)) (A5 70 (J5 (SO L)) (Be 69 (J5 (GX L))) BZ) (Be 86 (Nf (SS L)))) (A5 91 (J5 (Tc L)) (Be 90 (J5 (Lu L))) (Be 92 (J5 (EK L)))))) (A5 107 (J5 (NY L)) (A5 100 (J5 (Rm L)) (A5 97 (aN0 (Mm L)) (A5 96 (Nf (OH L)) (Be 95 (Nf (Df L))) BZ) (Be 98 (J5 (A1K L)))) (A5 104 (J5 (KW L)) (Be 101 (aN3 (Qa L))) (Be 105 (J5 (Rh L))))) (A5 140 (Nf (FD L)) (A5 133 (aN3 (Ml L)) (A5 109 (J5 (Rj L)) (Be 108 (J5 (Rg L))) BZ) (Be 137 (J5 (Ff L)))) (A5 143 (Nf (FY L)) (Be 142 (Nf (Gu L))) (Be 144 (J5 (Mr L)))))))) (A5 253 (J5 (Mt L)) (A5 199 (J5 (Mq L)) (A5 175 (Nf (A6A L)) (A5 150 (Nf (CA L)) (A5 148 (Nf (JU L)) (A5 147 (Nf (GD L)) (Be 146 (J5 (GY L))) BZ) (Be 149 (J5 (J2 L)))) (A5 166 (J5 (SW L)) (A5 164 (J5 (Mn L)) (Be 160 (J5 (Rk L))) BZ) (Be 172 (J5 (A3b L))))) (A5 186 (J5 (Il L)) (A5 183 (aN3 (JV L)) (A5 180 (aN3 (Qc L)) (Be 177 (Nf (A4P L))) BZ) (Be 185 (J5 (Qi L)))) (A5 192 (J5 (A36 L)) (Be 191 (J5 (Nn L))) (Be 193 (Nf (Fv L)))))) (A5 226 (Nf (A3a L)) (A5 217 (J5 (Qd L)) (A5 202 (J5 (Mz L)) (A5 201 (aN3 (Fc L)) (Be 200 (J5 (Np L))) BZ) (Be 203 (Nf (Qf L)))) (A5 221 (Nf (A39 L)) (Be 220 (J5 (A1J L))) (Be 223 (Nf (ZZ L))))) (A5 241 (J5 (Im L)) (A5 239 (J5 (OJ L)) (A5 238 (Nf (Gw L)) (Be 235 (J5 (Lv L))) BZ) (Be 240 (Nf (D0 L)))) (A5 249 (J5 (A35 L)) (Be 247 (Nf (DW L))) (Be 250 (J5 (FW L))))))) (A5 291 (Nf (FB L)) (A5 275 (Nf (Xc L)) (A5 265 (Nf (A3d L)) (A5 263 (J5 (A02 L)) (A5 261 (J5 (A4O L)) (Be 255 (Nf (Ij L))) BZ) (Be 264 (Nf (Xh L)))) (A5 271 (J5 (Fa L)) (A5 270 (J5 (Gv L)) (Be 269 (Nf (DP L))) BZ) (Be 272 (J5 (ER L))))) (A5 285 (Nf (FC L)) (A5 281 (J5 (Mp L)) (A5 280 (Nf (Dz L)) (Be 279 (J5 (Jz L))) BZ) (Be 282 (Nf (HD L)))) (A5 289 (Nf (XA1 L)) (Be 288 (Nf (HC L))) (Be 290 (Nf (FX L)))))) (A5 323 (J5 (A01 L)) (A5 299 (Nf (TN L)) (A5 297 (Nf (A1N L)) (A5 296 (J5 (Xg L)) (Be 292 (Nf (GE L))) BZ) (Be 298 (Nf (Rp L)))) (A5 305 (Nf (Eo L)) (Be 300 (J5 (TM L))) (Be 314 (Nf (DO L))))) (A5 331 (aN3 (Oj L)) (A5 327 (Nf (VB L)) (A5 326 (J5 (Ro L)) (Be 325 (J5 (Kx L))) BZ) (Be 328 (aN3 (QC L)))) (A5 364 (Nf (Jl L)) (Be 333 (Nf (VC L))) (Be 365 (aN3 (RX L)))))))))
set_option maxHeartbeats 100000000 in
theorem C4Q (L:Nat):(nT L).All (Lk (E L)):=by
 unfold nT
 repeat' first|exact A5s|apply A5r
 all_goals as_aux_lemma=>first|exact lk0 λ_ _ _=>by kernel_rfl|exact lk1 λ_ _ _ _=>by kernel_rfl|exact lk2 λ_ _ _ _ _=>by kernel_rfl|exact lk3 λ_ _ _ _ _ _=>by kernel_rfl|exact lk4 λ_ _ _ _ _ _ _=>by kernel_rfl|exact lk5 λ_ _ _ _ _ _ _ _=>by kernel_rfl
def oT:BT OF:= .node 198 B4v (.node 93 WR .leaf .leaf) (.node 330 A4C .leaf .leaf)
def rt (L n:Nat):Rt:=Te (E L) (nT L) oT n
abbrev CN0 (f:Nat) (F:Nat→Rt→Hp→KV→Aj):Prop:=∀(L n:Nat) (H:Hp) (K:KV),(rt L (n+1)).call f [] H K=F L (rt L n) H K
theorem cN0 {f:Nat} {F:Nat→Rt→Hp→KV→Aj} (h:∀L,(nT L).get f=some λR=>ar0 (F L R)) (g:∀_:Nat,oT.get f=none):CN0 f F:= λL n H K=>A8G (F:=F L) (h L) (g 0) n H K
abbrev L2 (f:Nat) (F:Nat→Rt→AV→Hp→KV→Aj):Prop:=∀(L n:Nat) (a:AV) (H:Hp) (K:KV),(rt L (n+1)).call f [a] H K=F L (rt L n) a H K
theorem LC {f:Nat} {F:Nat→Rt→AV→Hp→KV→Aj} (h:∀L,(nT L).get f=some λR=>ar1 (F L R)) (g:∀_:Nat,oT.get f=none):L2 f F:= λL n a H K=>A8F (F:=F L) (h L) (g 0) n a H K
abbrev QR (f:Nat) (F:Nat→Rt→AV→AV→Hp→KV→Aj):Prop:=∀(L n:Nat) (a b:AV) (H:Hp) (K:KV),(rt L (n+1)).call f [a,b] H K=F L (rt L n) a b H K
theorem R7 {f:Nat} {F:Nat→Rt→AV→AV→Hp→KV→Aj} (h:∀L,(nT L).get f=some λR=>ar2 (F L R)) (g:∀_:Nat,oT.get f=none):QR f F:= λL n a b H K=>A8E (F:=F L) (h L) (g 0) n a b H K
abbrev CN3 (f:Nat) (F:Nat→Rt→AV→AV→AV→Hp→KV→Aj):Prop:=∀(L n:Nat) (a b c:AV) (H:Hp) (K:KV),(rt L (n+1)).call f [a,b,c] H K=F L (rt L n) a b c H K
theorem cN3 {f:Nat} {F:Nat→Rt→AV→AV→AV→Hp→KV→Aj} (h:∀L,(nT L).get f=some λR=>ar3 (F L R)) (g:∀_:Nat,oT.get f=none):CN3 f F:= λL n a b c H K=>A8D (F:=F L) (h L) (g 0) n a b c H K
abbrev CN4 (f:Nat) (F:Nat→Rt→AV→AV→AV→AV→Hp→KV→Aj):Prop:=∀(L n:Nat) (a b c d:AV) (H:Hp) (K:KV),(rt L (n+1)).call f [a,b,c,d] H K=F L (rt L n) a b c d H K
theorem cN4 {f:Nat} {F:Nat→Rt→AV→AV→AV→AV→Hp→KV→Aj} (h:∀L,(nT L).get f=some λR=>ar4 (F L R)) (g:∀_:Nat,oT.get f=none):CN4 f F:= λL n a b c d H K=>A8C (F:=F L) (h L) (g 0) n a b c d H K
theorem UG:L2 Qv Lr:=LC (λ_=>rfl) (λ_=>rfl)
theorem A1M:CN0 Ts Ta:=cN0 (λ_=>rfl) (λ_=>rfl)
theorem A1A:L2 To SM:=LC (λ_=>rfl) (λ_=>rfl)
theorem A37:L2 IF U9:=LC (λ_=>rfl) (λ_=>rfl)
theorem T7:L2 Iu Oa:=LC (λ_=>rfl) (λ_=>rfl)
theorem A4Q:QR Hj Wj:=R7 (λ_=>rfl) (λ_=>rfl)
theorem K1:QR Ds HQ:=R7 (λ_=>rfl) (λ_=>rfl)
theorem A38:QR L6 UA:=R7 (λ_=>rfl) (λ_=>rfl)
theorem Wk:QR FF Nr:=R7 (λ_=>rfl) (λ_=>rfl)
theorem T8:L2 Iv Ob:=LC (λ_=>rfl) (λ_=>rfl)
theorem TK:L2 Ez Ky:=LC (λ_=>rfl) (λ_=>rfl)
theorem TL:QR Fq Kz:=R7 (λ_=>rfl) (λ_=>rfl)
theorem Y3:L2 Ge Qb:=LC (λ_=>rfl) (λ_=>rfl)
theorem Xe:L2 Hh SR:=LC (λ_=>rfl) (λ_=>rfl)
theorem A03:L2 Od Rq:=LC (λ_=>rfl) (λ_=>rfl)
theorem UI:QR Jc Pi:=R7 (λ_=>rfl) (λ_=>rfl)
theorem T6:L2 It NZ:=LC (λ_=>rfl) (λ_=>rfl)
theorem A1z:QR Ko SL:=R7 (λ_=>rfl) (λ_=>rfl)
theorem A1D:CN4 MJ SQ:=cN4 (λ_=>rfl) (λ_=>rfl)
theorem Xi:L2 E0 Tb:=LC (λ_=>rfl) (λ_=>rfl)
theorem RZ:L2 E6 J1:=LC (λ_=>rfl) (λ_=>rfl)
theorem RY:QR F5 J0:=R7 (λ_=>rfl) (λ_=>rfl)
theorem JT:QR Cz Ew:=R7 (λ_=>rfl) (λ_=>rfl)
theorem TO:L2 I0 K0:=LC (λ_=>rfl) (λ_=>rfl)
theorem VE:QR JG My:=R7 (λ_=>rfl) (λ_=>rfl)
theorem MW:L2 Gc FU:=LC (λ_=>rfl) (λ_=>rfl)
theorem VD:QR HY Mx:=R7 (λ_=>rfl) (λ_=>rfl)
theorem LI:L2 Fw Fu:=LC (λ_=>rfl) (λ_=>rfl)
theorem UH:L2 Jb Lt:=LC (λ_=>rfl) (λ_=>rfl)
theorem IX:CN4 Cp FZ:=cN4 (λ_=>rfl) (λ_=>rfl)
theorem A3c:L2 Ov UF:=LC (λ_=>rfl) (λ_=>rfl)
theorem Xd:L2 D5 OG:=LC (λ_=>rfl) (λ_=>rfl)
theorem UC:L2 Kq Pf:=LC (λ_=>rfl) (λ_=>rfl)
theorem A1B:QR B6 SN:=R7 (λ_=>rfl) (λ_=>rfl)
theorem A1I:CN3 Pm SY:=cN3 (λ_=>rfl) (λ_=>rfl)
theorem UE:L2 Fk XA7:=LC (λ_=>rfl) (λ_=>rfl)
theorem A1F:CN4 Pk SU:=cN4 (λ_=>rfl) (λ_=>rfl)
theorem UB:L2 Ja SP:=LC (λ_=>rfl) (λ_=>rfl)
theorem Wl:L2 Kr Nt:=LC (λ_=>rfl) (λ_=>rfl)
theorem JC:QR Cw F0:=R7 (λ_=>rfl) (λ_=>rfl)
theorem Gn:QR CC Dq:=R7 (λ_=>rfl) (λ_=>rfl)
theorem Ii:L2 Es Fb:=LC (λ_=>rfl) (λ_=>rfl)
theorem GZ:L2 CO CN:=LC (λ_=>rfl) (λ_=>rfl)
theorem IW:L2 F4 DF:=LC (λ_=>rfl) (λ_=>rfl)
theorem Wh:L2 NC No:=LC (λ_=>rfl) (λ_=>rfl)
theorem A00:QR Rv Rn:=R7 (λ_=>rfl) (λ_=>rfl)
theorem I9:L2 DZ GX:=LC (λ_=>rfl) (λ_=>rfl)
theorem A1C:L2 MI SO:=LC (λ_=>rfl) (λ_=>rfl)
theorem A1H:QR HW SX:=R7 (λ_=>rfl) (λ_=>rfl)
theorem A1E:QR BP SS:=R7 (λ_=>rfl) (λ_=>rfl)
theorem FV:CN4 Cj FK:=cN4 (λ_=>rfl) (λ_=>rfl)
theorem UJ:L2 Jd Lu:=LC (λ_=>rfl) (λ_=>rfl)
theorem A1O:L2 Pn Tc:=LC (λ_=>rfl) (λ_=>rfl)
theorem HB:L2 EM EK:=LC (λ_=>rfl) (λ_=>rfl)
theorem Gh:QR C4 Cy:=R7 (λ_=>rfl) (λ_=>rfl)
theorem HP:QR Dg Df:=R7 (λ_=>rfl) (λ_=>rfl)
theorem Xf:QR CP OH:=R7 (λ_=>rfl) (λ_=>rfl)
theorem V5:CN0 ML Mm:=cN0 (λ_=>rfl) (λ_=>rfl)
theorem ZY:L2 GN Rm:=LC (λ_=>rfl) (λ_=>rfl)
theorem Y2:CN3 Dk Qa:=cN3 (λ_=>rfl) (λ_=>rfl)
theorem QL:L2 Fs KW:=LC (λ_=>rfl) (λ_=>rfl)
theorem ZV:L2 E8 Rh:=LC (λ_=>rfl) (λ_=>rfl)
theorem T4:L2 EV NY:=LC (λ_=>rfl) (λ_=>rfl)
theorem ZU:L2 E7 Rg:=LC (λ_=>rfl) (λ_=>rfl)
theorem ZW:L2 Ip Rj:=LC (λ_=>rfl) (λ_=>rfl)
theorem RU:CN3 Ea Ml:=cN3 (λ_=>rfl) (λ_=>rfl)
theorem Ik:L2 D2 Ff:=LC (λ_=>rfl) (λ_=>rfl)
theorem Mw:QR B7 FD:=R7 (λ_=>rfl) (λ_=>rfl)
theorem Nq:QR BX Gu:=R7 (λ_=>rfl) (λ_=>rfl)
theorem MZ:QR Co FY:=R7 (λ_=>rfl) (λ_=>rfl)
theorem V9:L2 Fo Mr:=LC (λ_=>rfl) (λ_=>rfl)
theorem QB:L2 Gq IA:=LC (λ_=>rfl) (λ_=>rfl)
theorem OI:L2 Dl GY:=LC (λ_=>rfl) (λ_=>rfl)
theorem Oh:QR JE GD:=R7 (λ_=>rfl) (λ_=>rfl)
theorem SZ:QR JY JU:=R7 (λ_=>rfl) (λ_=>rfl)
theorem Sa:L2 F6 J2:=LC (λ_=>rfl) (λ_=>rfl)
theorem Ep:QR GL CA:=R7 (λ_=>rfl) (λ_=>rfl)
theorem ZX:L2 Oc Rk:=LC (λ_=>rfl) (λ_=>rfl)
theorem V6:L2 MM Mn:=LC (λ_=>rfl) (λ_=>rfl)
theorem A1G:L2 HV SW:=LC (λ_=>rfl) (λ_=>rfl)
theorem Y5:CN3 CF Qc:=cN3 (λ_=>rfl) (λ_=>rfl)
theorem Td:CN3 BY JV:=cN3 (λ_=>rfl) (λ_=>rfl)
theorem Y9:L2 IC Qi:=LC (λ_=>rfl) (λ_=>rfl)
theorem Qg:L2 DA Il:=LC (λ_=>rfl) (λ_=>rfl)
theorem Wg:L2 NB Nn:=LC (λ_=>rfl) (λ_=>rfl)
theorem LJ:QR Bz Fv:=R7 (λ_=>rfl) (λ_=>rfl)
theorem V8:L2 E3 Mq:=LC (λ_=>rfl) (λ_=>rfl)
theorem Wi:L2 EN Np:=LC (λ_=>rfl) (λ_=>rfl)
theorem Lp:CN3 HU Fc:=cN3 (λ_=>rfl) (λ_=>rfl)
theorem VF:L2 MQ Mz:=LC (λ_=>rfl) (λ_=>rfl)
theorem Y8:QR Eb Qf:=R7 (λ_=>rfl) (λ_=>rfl)
theorem Y6:L2 MK Qd:=LC (λ_=>rfl) (λ_=>rfl)
theorem UK:L2 Hl Lv:=LC (λ_=>rfl) (λ_=>rfl)
theorem Nu:QR EF Gw:=R7 (λ_=>rfl) (λ_=>rfl)
theorem Xj:L2 Jo OJ:=LC (λ_=>rfl) (λ_=>rfl)
theorem I8:QR C7 D0:=R7 (λ_=>rfl) (λ_=>rfl)
theorem Qh:L2 FN Im:=LC (λ_=>rfl) (λ_=>rfl)
theorem Jy:QR CW DW:=R7 (λ_=>rfl) (λ_=>rfl)
theorem MX:L2 IG FW:=LC (λ_=>rfl) (λ_=>rfl)
theorem VA:L2 JF Mt:=LC (λ_=>rfl) (λ_=>rfl)
theorem Qe:QR FM Ij:=R7 (λ_=>rfl) (λ_=>rfl)
theorem Jk:QR DR DP:=R7 (λ_=>rfl) (λ_=>rfl)
theorem Ns:L2 D6 Gv:=LC (λ_=>rfl) (λ_=>rfl)
theorem Lo:L2 Fj Fa:=LC (λ_=>rfl) (λ_=>rfl)
theorem KL:L2 D9 ER:=LC (λ_=>rfl) (λ_=>rfl)
theorem RW:L2 F3 Jz:=LC (λ_=>rfl) (λ_=>rfl)
theorem I7:QR C6 Dz:=R7 (λ_=>rfl) (λ_=>rfl)
theorem V7:L2 MO Mp:=LC (λ_=>rfl) (λ_=>rfl)
theorem Ph:QR HG HD:=R7 (λ_=>rfl) (λ_=>rfl)
theorem Mv:QR Dn FC:=R7 (λ_=>rfl) (λ_=>rfl)
theorem Pg:QR Eu HC:=R7 (λ_=>rfl) (λ_=>rfl)
theorem Lq:QR CX XA1:=R7 (λ_=>rfl) (λ_=>rfl)
theorem MY:QR Du FX:=R7 (λ_=>rfl) (λ_=>rfl)
theorem Mu:QR Dm FB:=R7 (λ_=>rfl) (λ_=>rfl)
theorem Oi:QR DL GE:=R7 (λ_=>rfl) (λ_=>rfl)
theorem JJ:QR Er Eo:=R7 (λ_=>rfl) (λ_=>rfl)
theorem Jj:QR DQ DO:=R7 (λ_=>rfl) (λ_=>rfl)
end Go.Proofs
end
