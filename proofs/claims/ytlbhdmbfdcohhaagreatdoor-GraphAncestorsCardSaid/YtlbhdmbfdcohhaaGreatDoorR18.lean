import Derived.KernelRfl
import Derived.Test.YtlbhdmbfdcohhaaGreatDoorR12
import Derived.Test.YtlbhdmbfdcohhaaGreatDoorR13
import Derived.Test.YtlbhdmbfdcohhaaGreatDoorR14
import Derived.Test.YtlbhdmbfdcohhaaGreatDoorR15
import Derived.Test.YtlbhdmbfdcohhaaGreatDoorR16
import Derived.Test.YtlbhdmbfdcohhaaGreatDoorR17
set_option linter.all false
set_option maxHeartbeats 100000000
noncomputable section
namespace Go.Proofs
open Go.Abs
set_option maxRecDepth 100000
abbrev aN0 (F:Rt→Hp→KV→Al):NF:= λR=>ar0 (F R)
abbrev II (F:Rt→AV→Hp→KV→Al):NF:= λR=>ar1 (F R)
abbrev JS (F:Rt→AV→AV→Hp→KV→Al):NF:= λR=>ar2 (F R)
abbrev aN3 (F:Rt→AV→AV→AV→Hp→KV→Al):NF:= λR=>ar3 (F R)
abbrev aN4 (F:Rt→AV→AV→AV→AV→Hp→KV→Al):NF:= λR=>ar4 (F R)
def nT (L:Nat):BT NF:=(A5 172 (II (A2P L)) (A5 68 (II (A1j L)) (A5 31 (II (SG L)) (A5 20 (II (QQ L)) (A5 12 (JS (VC L)) (A5 9 (II (Sp L)) (A5 8 (aN0 (SE L)) (Bb 5 (II (I4 L))) BF) (A5 11 (II (QP L)) (Bb 10 (II (TY L))) BF)) (A5 16 (JS (MH L)) (A5 14 (JS (TZ L)) (Bb 13 (JS (Hj L))) BF) (Bb 18 (JS (Kb L))))) (A5 25 (II (QR L)) (A5 23 (II (Pq L)) (A5 22 (JS (Kd L)) (Bb 21 (II (Kc L))) BF) (Bb 24 (II (Sw L)))) (A5 29 (JS (So L)) (A5 27 (II (Nq L)) (Bb 26 (JS (O7 L))) BF) (Bb 30 (aN4 (Sv L)))))) (A5 56 (II (Sy L)) (A5 43 (II (Ud L)) (A5 39 (II (ET L)) (A5 33 (JS (Je L)) (Bb 32 (II (Tx L))) BF) (A5 41 (aN4 (F5 L)) (Bb 40 (II (KM L))) BF)) (A5 54 (JS (Sq L)) (A5 45 (II (O3 L)) (Bb 44 (II (Oa L))) BF) (Bb 55 (aN3 (SC L))))) (A5 61 (JS (Eb L)) (A5 59 (II (MJ L)) (A5 58 (II (Su L)) (Bb 57 (aN4 (Sz L))) BF) (Bb 60 (JS (GQ L)))) (A5 66 (II (MD L)) (A5 64 (II (Dt L)) (Bb 62 (II (Ge L))) BF) (Bb 67 (JS (QL L))))))) (A5 124 (JS (A4u L)) (A5 96 (JS (Ob L)) (A5 89 (aN4 (XA2 L)) (A5 83 (JS (A8j L)) (A5 70 (II (Ss L)) (Bb 69 (II (Gz L))) BF) (A5 86 (JS (Sx L)) (Bb 84 (JS (SB L))) BF)) (A5 92 (II (FD L)) (A5 91 (II (SH L)) (Bb 90 (II (KN L))) BF) (Bb 95 (JS (CH L))))) (A5 104 (II (K0 L)) (A5 100 (II (QK L)) (A5 98 (II (A1i L)) (Bb 97 (aN0 (LB L))) BF) (Bb 101 (aN3 (Pp L)))) (A5 108 (II (QG L)) (A5 107 (II (Np L)) (Bb 105 (II (QH L))) BF) (Bb 109 (II (QI L)))))) (A5 147 (JS (Gf L)) (A5 142 (JS (FP L)) (A5 133 (aN3 (L9 L)) (A5 131 (JS (A6h L)) (Bb 125 (II (Z8 L))) BF) (A5 140 (JS (Fl L)) (Bb 137 (II (ED L))) BF)) (A5 145 (II (Ia L)) (A5 144 (II (LF L)) (Bb 143 (JS (F4 L))) BF) (Bb 146 (II (G6 L))))) (A5 154 (JS (Zx L)) (A5 150 (JS (CY L)) (A5 149 (II (Jf L)) (Bb 148 (JS (J5 L))) BF) (Bb 153 (II (A2K L)))) (A5 164 (II (LC L)) (A5 162 (II (A2L L)) (Bb 160 (II (QJ L))) BF) (Bb 166 (II (S0 L)))))))) (A5 265 (JS (A2S L)) (A5 217 (II (Pt L)) (A5 192 (II (A2H L)) (A5 180 (aN3 (Ps L)) (A5 176 (JS (A6k L)) (A5 175 (JS (A6j L)) (Bb 173 (JS (Z9 L))) BF) (A5 179 (JS (A6i L)) (Bb 177 (JS (A4w L))) BF)) (A5 186 (II (HH L)) (A5 185 (II (P0 L)) (Bb 183 (aN3 (J6 L))) BF) (Bb 191 (II (MC L))))) (A5 201 (aN3 (EB L)) (A5 199 (II (XA4 L)) (A5 196 (II (XZ L)) (Bb 193 (JS (EU L))) BF) (Bb 200 (II (ME L)))) (A5 213 (JS (A6g L)) (A5 203 (JS (Px L)) (Bb 202 (II (LL L))) BF) (Bb 214 (II (A1g L)))))) (A5 240 (JS (Df L)) (A5 227 (JS (A2M L)) (A5 223 (JS (Zy L)) (A5 221 (JS (A2N L)) (Bb 220 (II (A1h L))) BF) (A5 226 (JS (A2O L)) (Bb 224 (JS (Zz L))) BF)) (A5 238 (JS (FR L)) (A5 235 (II (KO L)) (Bb 230 (II (XY L))) BF) (Bb 239 (II (Od L))))) (A5 253 (II (LG L)) (A5 249 (II (A2G L)) (A5 247 (JS (D7 L)) (Bb 241 (II (HI L))) BF) (Bb 250 (II (F2 L)))) (A5 263 (II (ZD L)) (A5 261 (II (A4v L)) (Bb 255 (JS (HF L))) BF) (Bb 264 (JS (WA L))))))) (A5 300 (II (Tv L)) (A5 285 (JS (Fk L)) (A5 275 (JS (Wx L)) (A5 270 (II (FQ L)) (A5 269 (JS (D1 L)) (Bb 266 (JS (A2T L))) BF) (A5 272 (II (E1 L)) (Bb 271 (II (EA L))) BF)) (A5 281 (II (LD L)) (A5 280 (JS (De L)) (Bb 279 (II (Jd L))) BF) (Bb 282 (JS (GP L))))) (A5 292 (JS (Gg L)) (A5 290 (JS (F3 L)) (A5 289 (JS (EC L)) (Bb 288 (JS (GO L))) BF) (Bb 291 (JS (Fj L)))) (A5 298 (JS (QO L)) (A5 297 (JS (A1l L)) (Bb 296 (II (W8 L))) BF) (Bb 299 (JS (Tw L)))))) (A5 333 (JS (Ve L)) (A5 325 (II (Ka L)) (A5 305 (JS (DL L)) (A5 304 (JS (A2R L)) (Bb 303 (JS (SF L))) BF) (A5 323 (II (ZC L)) (Bb 314 (JS (D0 L))) BF)) (A5 328 (aN3 (Qd L)) (A5 327 (JS (Vd L)) (Bb 326 (II (QN L))) BF) (Bb 331 (aN3 (N9 L))))) (A5 365 (aN3 (R9 L)) (A5 336 (II (W9 L)) (A5 335 (JS (ZB L)) (Bb 334 (aN3 (Pw L))) BF) (Bb 364 (JS (IQ L)))) (A5 386 (aN3 (Pu L)) (A5 370 (aN4 (Ue L)) (Bb 368 (aN3 (Qc L))) BF) (Bb 396 (JS (MF L)))))))))
set_option maxHeartbeats 100000000 in
theorem C49 (L:Nat):(nT L).All (Lk (E L)):=by
 unfold nT
 repeat' first|exact A5c|apply A5b
 all_goals as_aux_lemma=>first|exact lk0 λ_ _ _=>by kernel_rfl|exact lk1 λ_ _ _ _=>by kernel_rfl|exact lk2 λ_ _ _ _ _=>by kernel_rfl|exact lk3 λ_ _ _ _ _ _=>by kernel_rfl|exact lk4 λ_ _ _ _ _ _ _=>by kernel_rfl|exact lk5 λ_ _ _ _ _ _ _ _=>by kernel_rfl
def oT:BT OF:= .node 198 B47 (.node 93 Wm .leaf .leaf) (.node 330 A4i .leaf .leaf)
def rt (L n:Nat):Rt:=SJ (E L) (nT L) oT n
abbrev CN0 (f:Nat) (F:Nat→Rt→Hp→KV→Al):Prop:=∀(L n:Nat) (H:Hp) (K:KV),(rt L (n+1)).call f [] H K=F L (rt L n) H K
theorem cN0 {f:Nat} {F:Nat→Rt→Hp→KV→Al} (h:∀L,(nT L).get f=some λR=>ar0 (F L R)) (g:∀_:Nat,oT.get f=none):CN0 f F:= λL n H K=>A8p (F:=F L) (h L) (g 0) n H K
abbrev Mh (f:Nat) (F:Nat→Rt→AV→Hp→KV→Al):Prop:=∀(L n:Nat) (a:AV) (H:Hp) (K:KV),(rt L (n+1)).call f [a] H K=F L (rt L n) a H K
theorem Mi {f:Nat} {F:Nat→Rt→AV→Hp→KV→Al} (h:∀L,(nT L).get f=some λR=>ar1 (F L R)) (g:∀_:Nat,oT.get f=none):Mh f F:= λL n a H K=>A8o (F:=F L) (h L) (g 0) n a H K
abbrev RU (f:Nat) (F:Nat→Rt→AV→AV→Hp→KV→Al):Prop:=∀(L n:Nat) (a b:AV) (H:Hp) (K:KV),(rt L (n+1)).call f [a,b] H K=F L (rt L n) a b H K
theorem Sb {f:Nat} {F:Nat→Rt→AV→AV→Hp→KV→Al} (h:∀L,(nT L).get f=some λR=>ar2 (F L R)) (g:∀_:Nat,oT.get f=none):RU f F:= λL n a b H K=>A8n (F:=F L) (h L) (g 0) n a b H K
abbrev CN3 (f:Nat) (F:Nat→Rt→AV→AV→AV→Hp→KV→Al):Prop:=∀(L n:Nat) (a b c:AV) (H:Hp) (K:KV),(rt L (n+1)).call f [a,b,c] H K=F L (rt L n) a b c H K
theorem cN3 {f:Nat} {F:Nat→Rt→AV→AV→AV→Hp→KV→Al} (h:∀L,(nT L).get f=some λR=>ar3 (F L R)) (g:∀_:Nat,oT.get f=none):CN3 f F:= λL n a b c H K=>A8m (F:=F L) (h L) (g 0) n a b c H K
abbrev CN4 (f:Nat) (F:Nat→Rt→AV→AV→AV→AV→Hp→KV→Al):Prop:=∀(L n:Nat) (a b c d:AV) (H:Hp) (K:KV),(rt L (n+1)).call f [a,b,c,d] H K=F L (rt L n) a b c d H K
theorem cN4 {f:Nat} {F:Nat→Rt→AV→AV→AV→AV→Hp→KV→Al} (h:∀L,(nT L).get f=some λR=>ar4 (F L R)) (g:∀_:Nat,oT.get f=none):CN4 f F:= λL n a b c d H K=>A8l (F:=F L) (h L) (g 0) n a b c d H K
theorem QM:Mh LY I4:=Mi (λ_=>rfl) (λ_=>rfl)
theorem A1k:CN0 SU SE:=cN0 (λ_=>rfl) (λ_=>rfl)
theorem A17:Mh SQ Sp:=Mi (λ_=>rfl) (λ_=>rfl)
theorem A2I:Mh Il TY:=Mi (λ_=>rfl) (λ_=>rfl)
theorem ZE:Mh Ns QP:=Mi (λ_=>rfl) (λ_=>rfl)
theorem A4x:RU Fm VC:=Sb (λ_=>rfl) (λ_=>rfl)
theorem Ke:RU Cm Hj:=Sb (λ_=>rfl) (λ_=>rfl)
theorem A2J:RU NM TZ:=Sb (λ_=>rfl) (λ_=>rfl)
theorem VD:RU CU MH:=Sb (λ_=>rfl) (λ_=>rfl)
theorem Ts:RU Bq Kb:=Sb (λ_=>rfl) (λ_=>rfl)
theorem ZF:Mh Nt QQ:=Mi (λ_=>rfl) (λ_=>rfl)
theorem Tt:Mh DV Kc:=Mi (λ_=>rfl) (λ_=>rfl)
theorem Tu:RU XA0 Kd:=Sb (λ_=>rfl) (λ_=>rfl)
theorem XV:Mh F6 Pq:=Mi (λ_=>rfl) (λ_=>rfl)
theorem Wz:Mh GB Sw:=Mi (λ_=>rfl) (λ_=>rfl)
theorem ZG:Mh Nu QR:=Mi (λ_=>rfl) (λ_=>rfl)
theorem Ug:RU IA O7:=Sb (λ_=>rfl) (λ_=>rfl)
theorem Th:Mh HN Nq:=Mi (λ_=>rfl) (λ_=>rfl)
theorem A16:RU JP So:=Sb (λ_=>rfl) (λ_=>rfl)
theorem A1a:CN4 LR Sv:=cN4 (λ_=>rfl) (λ_=>rfl)
theorem WB:Mh EN SG:=Mi (λ_=>rfl) (λ_=>rfl)
theorem RA:RU Ji Je:=Sb (λ_=>rfl) (λ_=>rfl)
theorem Lh:Mh EV ET:=Mi (λ_=>rfl) (λ_=>rfl)
theorem Uf:Mh I9 KM:=Mi (λ_=>rfl) (λ_=>rfl)
theorem I5:CN4 Ci F5:=cN4 (λ_=>rfl) (λ_=>rfl)
theorem A2Q:Mh NO Ud:=Mi (λ_=>rfl) (λ_=>rfl)
theorem Wy:Mh Di Oa:=Mi (λ_=>rfl) (λ_=>rfl)
theorem Ub:Mh JQ O3:=Mi (λ_=>rfl) (λ_=>rfl)
theorem A18:RU B3 Sq:=Sb (λ_=>rfl) (λ_=>rfl)
theorem A1f:CN3 OC SC:=cN3 (λ_=>rfl) (λ_=>rfl)
theorem Uc:Mh EJ Sy:=Mi (λ_=>rfl) (λ_=>rfl)
theorem A1c:CN4 OB Sz:=cN4 (λ_=>rfl) (λ_=>rfl)
theorem Ua:Mh I8 Su:=Mi (λ_=>rfl) (λ_=>rfl)
theorem VE:Mh JR MJ:=Mi (λ_=>rfl) (λ_=>rfl)
theorem O6:RU DR GQ:=Sb (λ_=>rfl) (λ_=>rfl)
theorem JO:RU Ee Eb:=Sb (λ_=>rfl) (λ_=>rfl)
theorem Ks:Mh EI Ge:=Mi (λ_=>rfl) (λ_=>rfl)
theorem I3:Mh XA1 Dt:=Mi (λ_=>rfl) (λ_=>rfl)
theorem VA:Mh MU MD:=Mi (λ_=>rfl) (λ_=>rfl)
theorem ZA:RU QX QL:=Sb (λ_=>rfl) (λ_=>rfl)
theorem HZ:Mh D9 Gz:=Mi (λ_=>rfl) (λ_=>rfl)
theorem A19:Mh LQ Ss:=Mi (λ_=>rfl) (λ_=>rfl)
theorem A1e:RU Ht SB:=Sb (λ_=>rfl) (λ_=>rfl)
theorem A1b:RU BK Sx:=Sb (λ_=>rfl) (λ_=>rfl)
theorem F1:CN4 BZ XA2:=cN4 (λ_=>rfl) (λ_=>rfl)
theorem Uh:Mh IB KN:=Mi (λ_=>rfl) (λ_=>rfl)
theorem A1m:Mh OE SH:=Mi (λ_=>rfl) (λ_=>rfl)
theorem JU:Mh FL FD:=Mi (λ_=>rfl) (λ_=>rfl)
theorem Hi:RU CI CH:=Sb (λ_=>rfl) (λ_=>rfl)
theorem W0:RU CA Ob:=Sb (λ_=>rfl) (λ_=>rfl)
theorem UX:CN0 LU LB:=cN0 (λ_=>rfl) (λ_=>rfl)
theorem Zw:Mh Gs QK:=Mi (λ_=>rfl) (λ_=>rfl)
theorem XU:CN3 CN Pp:=cN3 (λ_=>rfl) (λ_=>rfl)
theorem Qq:Mh ER K0:=Mi (λ_=>rfl) (λ_=>rfl)
theorem Zt:Mh Eg QH:=Mi (λ_=>rfl) (λ_=>rfl)
theorem Tg:Mh E4 Np:=Mi (λ_=>rfl) (λ_=>rfl)
theorem Zs:Mh Ef QG:=Mi (λ_=>rfl) (λ_=>rfl)
theorem Zu:Mh HL QI:=Mi (λ_=>rfl) (λ_=>rfl)
theorem R7:CN3 DA L9:=cN3 (λ_=>rfl) (λ_=>rfl)
theorem HG:Mh Dg ED:=Mi (λ_=>rfl) (λ_=>rfl)
theorem LJ:RU B4 Fl:=Sb (λ_=>rfl) (λ_=>rfl)
theorem MG:RU BP FP:=Sb (λ_=>rfl) (λ_=>rfl)
theorem Mn:RU Ch F4:=Sb (λ_=>rfl) (λ_=>rfl)
theorem Vb:Mh EM LF:=Mi (λ_=>rfl) (λ_=>rfl)
theorem Qb:Mh FM Ia:=Mi (λ_=>rfl) (λ_=>rfl)
theorem Oc:Mh CO G6:=Mi (λ_=>rfl) (λ_=>rfl)
theorem Nz:RU Jq Gf:=Sb (λ_=>rfl) (λ_=>rfl)
theorem SD:RU J9 J5:=Sb (λ_=>rfl) (λ_=>rfl)
theorem RB:Mh Ff Jf:=Mi (λ_=>rfl) (λ_=>rfl)
theorem FE:RU Gq CY:=Sb (λ_=>rfl) (λ_=>rfl)
theorem Zv:Mh Nr QJ:=Mi (λ_=>rfl) (λ_=>rfl)
theorem UY:Mh LV LC:=Mi (λ_=>rfl) (λ_=>rfl)
theorem A1d:Mh Hr S0:=Mi (λ_=>rfl) (λ_=>rfl)
theorem XW:CN3 Cy Ps:=cN3 (λ_=>rfl) (λ_=>rfl)
theorem SI:CN3 BQ J6:=cN3 (λ_=>rfl) (λ_=>rfl)
theorem Yc:Mh Ii P0:=Mi (λ_=>rfl) (λ_=>rfl)
theorem Py:Mh Dm HH:=Mi (λ_=>rfl) (λ_=>rfl)
theorem V9:Mh MT MC:=Mi (λ_=>rfl) (λ_=>rfl)
theorem Li:RU Bv EU:=Sb (λ_=>rfl) (λ_=>rfl)
theorem Va:Mh DZ XA4:=Mi (λ_=>rfl) (λ_=>rfl)
theorem VB:Mh Eu ME:=Mi (λ_=>rfl) (λ_=>rfl)
theorem KK:CN3 Hq EB:=cN3 (λ_=>rfl) (λ_=>rfl)
theorem Vf:Mh Ma LL:=Mi (λ_=>rfl) (λ_=>rfl)
theorem Yb:RU DB Px:=Sb (λ_=>rfl) (λ_=>rfl)
theorem XX:Mh XA5 Pt:=Mi (λ_=>rfl) (λ_=>rfl)
theorem Ui:Mh GD KO:=Mi (λ_=>rfl) (λ_=>rfl)
theorem MK:RU El FR:=Sb (λ_=>rfl) (λ_=>rfl)
theorem WC:Mh IS Od:=Mi (λ_=>rfl) (λ_=>rfl)
theorem HY:RU Cs Df:=Sb (λ_=>rfl) (λ_=>rfl)
theorem Pz:Mh Fu HI:=Mi (λ_=>rfl) (λ_=>rfl)
theorem Jc:RU CD D7:=Sb (λ_=>rfl) (λ_=>rfl)
theorem Ml:Mh Im F2:=Mi (λ_=>rfl) (λ_=>rfl)
theorem Vc:Mh Jr LG:=Mi (λ_=>rfl) (λ_=>rfl)
theorem Pv:RU Fs HF:=Sb (λ_=>rfl) (λ_=>rfl)
theorem IP:RU D3 D1:=Sb (λ_=>rfl) (λ_=>rfl)
theorem MI:Mh Dj FQ:=Mi (λ_=>rfl) (λ_=>rfl)
theorem KJ:Mh EH EA:=Mi (λ_=>rfl) (λ_=>rfl)
theorem Kt:Mh Dl E1:=Mi (λ_=>rfl) (λ_=>rfl)
theorem R8:Mh Fc Jd:=Mi (λ_=>rfl) (λ_=>rfl)
theorem HX:RU Cr De:=Sb (λ_=>rfl) (λ_=>rfl)
theorem UZ:Mh LX LD:=Mi (λ_=>rfl) (λ_=>rfl)
theorem O5:RU GS GP:=Sb (λ_=>rfl) (λ_=>rfl)
theorem LI:RU CQ Fk:=Sb (λ_=>rfl) (λ_=>rfl)
theorem O4:RU DQ GO:=Sb (λ_=>rfl) (λ_=>rfl)
theorem KL:RU CE EC:=Sb (λ_=>rfl) (λ_=>rfl)
theorem Mm:RU Da F3:=Sb (λ_=>rfl) (λ_=>rfl)
theorem LH:RU CP Fj:=Sb (λ_=>rfl) (λ_=>rfl)
theorem N0:RU Dx Gg:=Sb (λ_=>rfl) (λ_=>rfl)
theorem Ju:RU DM DL:=Sb (λ_=>rfl) (λ_=>rfl)
theorem IN:RU D2 D0:=Sb (λ_=>rfl) (λ_=>rfl)
end Go.Proofs
end
