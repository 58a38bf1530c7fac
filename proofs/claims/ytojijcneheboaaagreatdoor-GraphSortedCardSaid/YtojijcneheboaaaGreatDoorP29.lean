import Derived.Test.YtojijcneheboaaaGreatDoorP28
set_option linter.all false
set_option maxHeartbeats 0
noncomputable section
namespace Go.Abs
open Go.RowKit Go.Proofs
set_option maxRecDepth 100000
section
variable{L n:Nat}
def XT(gs:dn):AV:=if gs.length<=(YH gs).length then .tup [Dp (YH gs),.v (.int .i64 0)] else .tup [A1,.v (.int .i64 220)]
def B2i(gs:dn):pl 6 (XT gs)=true:=by
 unfold XT;split
 ·have:pl 5 (Dp (YH gs))=true:=by
   cases YH gs with
   |nil=>rfl
   |cons a l=>
    show(AJ (a::l)).all (pl 4)=true;rw[G8];intro y c;obtain⟨s,_,rfl⟩:=Us.1 c;rfl
  show[Dp (YH gs),AV.v (.int .i64 0)].all (pl 5)=true;simp only[l2j,this,l34];rfl
 ·rfl
section
variable{gs:dn}{x:Af}
def B3d(hn:(gs.map Cd.id).Nodup){done:dn}(f:done.Perm gs)(e:rW):e∈Og done↔e.1∈gs.map Cd.id/\e.2∈Lr gs e.1:=by
 rw[zD];constructor
 ·rintro⟨c,hc,h1,h2⟩;have a:=f.mem_iff.1 hc;obtain⟨i,d,rfl⟩:=List.getElem_of_mem a;rw[h1];exact⟨Us.2 ⟨_,a,rfl⟩,by rw[A3z hn d];exact h2⟩
 ·rintro⟨h1,h2⟩;obtain⟨c,hc,he⟩:=Us.1 h1;obtain⟨i,d,rfl⟩:=List.getElem_of_mem hc;rw[<-he,A3z hn d]at h2;exact⟨gs[i],f.mem_iff.2 hc,he.symm,h2⟩
def A3f{a:AV}(t:GOk gs)(hL:200000<L)(Y:∀c∈gs,c.ps.length<100)(ha:LA gs a):CS (r! L (n+80)) Gy [a] (XT gs):=by
 intro K V;rw[V8];unfold OY Az;have aj:Py true depth [a] [a] [] false:=by rcases ha with rfl|⟨_,rfl⟩<;>exact λK=>by kernel_rfl
 have of:∀{K:K2},Aj (r! L (n+79)) Eb [a] [] K=K (.tup [gV gs,Bo true]):=λ{K}=>En (λK V=>wX (n:=n+15) t (by omega) ha K V) aj;have w0:Ze 6 (XT gs) (XT gs)=true:=Uq 6 _ (B2i gs);have h8:=t.len;rw[of,CI,CH];have e0:∀{F:KV},(Ba Bx AC [] λv4 H5=>Dr AC v4 (gV gs) H5 λH6=>F v4 H6)=F (.ptr 0 0 0) [(0,c_ Bx [gV gs])]:=λ{F}=>by kernel_rfl
 rw[e0,Jm];show A2 (.v (.bool false)) _ _=_;rw[Bm];have e1:∀{F:AV->KV},(JK Ac [(0,c_ Bx [gV gs])] λv9 aa=>Ba Fp CK aa λN ab=>Dr CK N v9 ab λac=>JK Ab ac λam ad=>Ba Db Bn ad λO ae=>Dr Bn O am ae λaf=>F N O af)=
  F (.ptr 2 0 0) (.ptr 4 0 0) [(4,c_ Db [.mp 3]),(3,.map false [] (some ([],0))),(2,c_ Fp [.mp 1]),(1,.map false [] (some ([],0))),(0,c_ Bx [gV gs])]:=λ{F}=>by kernel_rfl
 rw[e1];simp only[BJ];generalize hH:([(4,c_ Db [.mp 3]),(3,.map false [] (some ([],0))),(2,c_ Fp [.mp 1]),(1,.map false [] (some ([],0))),(0,c_ Bx [gV gs])]:Hp)=g;have X:OsK gs [] [] (some ([],0)) (some ([],0)) (fC gs []) (eC gs []) g:=by
  subst hH;exact⟨rfl,rfl,rfl,rfl,rfl,AM (AM (AM (AM (AM E1)))),λx=>rfl,λp=>.inl ⟨rfl,rfl,rfl⟩,λp u d=>absurd d MD,λp p' u d=>absurd d MD⟩
 have i:Ax g=5:=by subst hH;rfl
 clear hH;have en:∀{K:K2},A7 AC (.ptr 0 0 0) g K=K (gV gs):=λ{K}=>by
  rw[AH (p:=0) rfl X.net (by simp)];rfl
 rw[en,A6M (n:=n+78),Xp,i];have w:Al ((5,lW gs (some none))::g) 5=some (lW gs (some none)):=by
  have:=Av (H:=g) (x:=lW gs (some none)) (by simp[lW]);rw[i]at this;exact this
 have Z:Wf ((5,lW gs (some none))::g):=by
  have:=AM (x:=lW gs (some none)) X.wf;rw[i]at this;exact this
 have o5:OsK gs [] [] (some ([],0)) (some ([],0)) (fC gs []) (eC gs []) ((5,lW gs (some none))::g):=X.kp Z λu y _ e=>by
  have:=AK (x:=lW gs (some none)) (X.wf.lt e) e;rw[i]at this;exact this
 have ap:Ax ((5,lW gs (some none))::g)=6:=rfl;show(r! L (n+79)).call CX [.yl 5,.iptr [gV gs]] ((5,lW gs (some none))::g) _=_;refine A3i (n:=n+76) (s0:=5) (Q:=C1X gs) w0 h8 Y (by omega) B1E (λes R j ⟨hl,ws,ch,b1,b3,h⟩ ao k=>⟨k _ _ (show 5≠6 by decide) hl,ws,ch,b1,b3,h.kp ao λu y d e=>k u y ?_ e⟩) (λes H ⟨_,_,_,_,_,h⟩=>h.wf) ?_ (λdone H hd ⟨hl,ws,ch,b1,b3,h⟩=>?_)
 ·exact(h.ne d).2
 ·refine⟨AK (Z.lt w) w,[],[],_,_,o5.kp (AM Z) λu y _ e=>AK (Z.lt e) e⟩
 ·show IN H 5 _=_;rw[Bq hl];show JI H 5 .gone _=_;rw[C5];have ai:(Og done).length<1000:=by
   have h1:=A0g done λc hc=>Y c (hd.mem_iff.1 hc);have h2:=hd.length_eq;omega
  have h1:OsK gs ws ch b1 b3 (fC gs (Og done)) (eC gs (Og done)) (upd H 5 .gone):=h.kp (Bs h.wf) λu y d e=>by
   rw[Ah (h.ne d).1];exact e
  generalize upd H 5 .gone=R at h1;show A7 AC (.ptr 0 0 0) R _=_;have ag:∀{K:K2},A7 AC (.ptr 0 0 0) R K=K (gV gs):=λ{K}=>by
   rw[AH (p:=0) rfl h1.net (by simp)];rfl
  rw[ag];refine J? (n:=n+73) w0 h8 (by omega) h1.wf λv H2 hv ar=>?_;have f:OsK gs ws ch b1 b3 (fC gs (Og done)) (eC gs (Og done)) H2:=h1.kp hv.wf λu y _ e=>hv.keep u y e;have aq:(FF (gs.map Cd.id)).length=gs.length:=by rw[(BF _).length_eq,Ub]
  have m:∀(j:Hp)(D:Nat),Al j 2=some (c_ Fp [.mp 1])->Al j 1=some (.map false (Fc iV ws) b1)->Fx true (D+2) (.ptr 2 0 0) (.iptr [.imap (Fc iV ws)]) j true:=λj D h2 h3=>
   yR (D:=D+1) h2 (Aq (B7S (D:=D) h3) AG)
  have J:∀s,decide (0<(Jo ws s).getD 0)=decide (0<fC gs (Og done) s):=λs=>by rw[h1.wv]
  refine B3G (n:=n+77) (P:=λs=>decide (0<fC gs (Og done) s)) hv.wf hv.sl.rq (by omega) hL ⟨.fn (.func Kq) [] [.iptr [.imap (Fc iV ws)]],_,B4a (D:=depth-1) (Aq (m H2 (depth-3) f.p1 f.m1) AG),λs K=>?_⟩ (λj hk s K=>?_) λv' H3 g1 g2 g3=>?_
  ·rw[B0v rfl rfl];have:=AE (K:=λv=>K v []) (A3e (n:=n+76) (L:=L) (ws:=ws) (s:=s)) (Aq (q:=false) CG (Aq (q:=false) (A3U (H:=[])) AG));rw[J]at this;exact this
  ·rw[B0v rfl rfl];have nr:∀u,u<5->¬A6 v u:=λu d hc=>by
    have g1:=hv.new u hc;have g2:=h1.wf.lt h1.p3;omega
   have a1:=hk.keep hv.wf _ _ f.p1 (nr 2 (by decide));have a2:=hk.keep hv.wf _ _ f.m1 (nr 1 (by decide));have:=AE (K:=λv=>K v j) (A3e (n:=n+77) (L:=L) (ws:=ws) (s:=s)) (Aq (q:=false) CG (Aq (m j (depth-2) a1 a2) AG));rw[J]at this;exact this
  ·have nr:∀u,A6 v' u->Ax R<=u:=λu d=>hv.new u (g2 u d);have h4:=h1.wf.lt h1.p3;have M:OsK gs ws ch b1 b3 (fC gs (Og done)) (eC gs (Og done)) H3:=f.kp (g3.wf hv.wf) λu y d e=>g3.keep hv.wf u y e λhc=>by
    have b1:=hv.new u hc;rcases d with d|⟨p,Y⟩
    ·omega
    ·have b2:=(h1.cv p).lt h1.wf Y;omega
   have hR:Ri gs (Og done) [] [] ((FF (gs.map Cd.id)).filter λs=>!decide (0<fC gs (Og done) s)):=by
    refine⟨((BF _).symm.nodup t.ids).sublist List.filter_sublist,λx=>?_,by simp,by simp⟩;rw[A3b,l2u,(BF _).mem_iff];refine and_congr Iff.rfl ?_;constructor
    ·intro hh;have:¬0<fC gs (Og done) x:=by simpa using hh
     exact⟨by simp,by omega⟩
    ·rintro⟨_,hh⟩;simp[hh]
   rw[<-A3b]at M;refine B7l (n:=n+75) (es:=Og done) (r:=YH gs) (ch:=ch) (b3:=b3) ai h8 hL t.ids (B3d t.ids hd) (λov H4 C ak B=>?_) gs.length (L+20) [] _ ws b1 v' A1 H3 _ _ _ (by omega) (by simp) OrdK.nil ⟨M,g1,.inl ⟨rfl,rfl,rfl⟩,λu d=>⟨?_,MD,λp hc=>?_⟩,λu d=>absurd d MD⟩ hR (λ_=>rfl) rfl
   ·rw[C.rq.len];have ah:∀{K:K2},A7 AC (.ptr 0 0 0) H4 K=K (gV gs):=λ{K}=>by
     rw[AH (p:=0) rfl B (by simp)];rfl
    have em:∀{K:K2},qW (gV gs) H4 K=K (I (gs.length:Int)):=λ{K}=>by
     show HD (Fc JA (gE gs)) 0 (λn=>K (.v (.int .i64 (.ofNat n))))=_;rw[Cs,Kk];have:(Fc JA (gE gs)).length=gs.length:=by simp[gE]
     rw[this];rfl
    rw[ah,em];by_cases A:gs.length<=(YH gs).length
    ·have er:XT gs=.tup [Dp (YH gs),.v (.int .i64 0)]:=by unfold XT;rw[CZ A]
     rw[XA2 (by omega),Bm];refine V _ _ λbb=>?_;rw[er];obtain⟨q,hq⟩:=X0 (D:=depth-2) (b:=bb) C ak;exact⟨_,Vq (D:=depth-1) (Aq hq (Aq (q:=false) CG AG))⟩
    ·have er:XT gs=.tup [A1,.v (.int .i64 220)]:=by unfold XT;rw[Cr A]
     rw[Fo (by omega),CA];refine V _ _ λbb=>?_;rw[er];exact⟨_,Vq (D:=depth-1) (Aq (q:=false) CG (Aq (q:=false) CG AG))⟩
   ·have b1:=nr u d;omega
   ·have b1:=nr u d;have b2:=(h1.cv p).lt h1.wf hc;omega
end
end
section
variable{gs ls S T:dn}{x y p:AQ}{c:Cd}
def IQ(hn:(gs.map Cd.id).Nodup)(hc:c∈gs):Jo (gE gs) c.id=some c:=by
 induction gs with
 |nil=>cases hc
 |cons d gs ih=>
  rw[VC,List.nodup_cons]at hn;show Jo ((d.id,d)::gE gs) c.id=some c;unfold Jo;rcases Qd.1 hc with rfl|hc
  ·rw[CZ rfl]
  ·have:d.id≠c.id:=λe=>hn.1 (e▸Us.2 ⟨c,hc,rfl⟩);rw[Cr this];exact ih hn.2 hc
def T_(hn:(gs.map Cd.id).Nodup)(hc:c∈gs):Lr gs c.id=c.ps:=by
 unfold Lr;rw[IQ hn hc]
def U'(a:x∉gs.map Cd.id):Lr gs x=[]:=by
 unfold Lr;rw[Pt (by rw[Vp];exact a)]
def gB(hn:(gs.map Cd.id).Nodup)(h:ls.Perm gs):Lr ls x=Lr gs x:=by
 have d:(ls.map Cd.id).Perm (gs.map Cd.id):=h.map _;by_cases a:x∈gs.map Cd.id
 ·obtain⟨c,hc,rfl⟩:=Us.1 a;rw[T_ hn hc,T_ (d.symm.nodup hn) (h.mem_iff.2 hc)]
 ·rw[U' a,U' (λhc=>a (d.mem_iff.1 hc))]
def A7e(hn:(gs.map Cd.id).Nodup)(h:ls.Perm gs){out:List AQ}:(sM ls out).Perm (sM gs out):=by
 have a:(ls.map Cd.id).Perm (gs.map Cd.id):=h.map _;refine(l2x ((a.symm.nodup hn).sublist List.filter_sublist) (hn.sublist List.filter_sublist)).2 λx=>?_;show x∈sM ls out↔x∈sM gs out;rw[Xq,Xq,a.mem_iff,gB hn h];simp only[a.mem_iff]
def A5c(hn:(gs.map Cd.id).Nodup)(h:ls.Perm gs):∀(N:Nat)(out:List AQ),gC ls N out=gC gs N out:=by
 intro N
 induction N with
 |zero=>intro out;rfl
 |succ N ih=>
  intro out;have e:FF (sM ls out)=FF (sM gs out):=HM ((BF _).trans ((A7e hn h).trans (BF _).symm)) (DJ _) (DJ _);unfold gC;rw[e];cases FF (sM gs out) with
  |nil=>rfl
  |cons m t=>exact ih _
def A5b(hn:(gs.map Cd.id).Nodup)(h:ls.Perm gs):YH ls=YH gs:=by
 unfold YH;rw[h.length_eq];exact A5c hn h _ _
def A5a(hn:(gs.map Cd.id).Nodup)(h:ls.Perm gs):XT ls=XT gs:=by
 unfold XT;rw[A5b hn h,h.length_eq]
def A2f(hn:(gs.map Cd.id).Nodup)(h:ls.Perm gs):Sx ls=Sx gs:=by
 have a:(ls.map Cd.id).Perm (gs.map Cd.id):=h.map _;refine HM ?_ (DJ _) (DJ _);refine(l2x (qJ (a.symm.nodup hn)) (qJ hn)).2 λx=>?_;rw[gX,gX,a.mem_iff];simp only[h.mem_iff]
def A20(h:ls.Perm gs):Qc ls=Qc gs:=by
 have a:(ls.map Cd.id).Perm (gs.map Cd.id):=h.map _;refine HM ?_ yB yB;refine(l2x qB qB).2 λx=>?_;rw[Ua,Ua,a.mem_iff];simp only[h.mem_iff]
inductive Cmp(S:dn):AQ->Prop
 |mk {c:Cd}:c∈S->(∀p∈c.ps,Cmp S p)->Cmp S c.id
def Cmp.mono(a:∀c∈S,c∈T)(h:Cmp S x):Cmp T x:=by
 induction h with
 |mk h1 _ ih=>exact .mk (a _ h1) ih
end

section
variable{S T:dn}{x:AQ}
end
end Go.Abs
end
noncomputable section
end
noncomputable section
end
noncomputable section
namespace Go.Abs
open Go.RowKit Go.Proofs
set_option maxRecDepth 100000
section
variable{a v:AV}{H:Hp}{D:Nat}{α:Type}
variable{L n:Nat}
def B7P{b:Bool}(l:Is)(h:l.all isV=true):Py b D l l H false:=by
 have:=KF (b:=b) (D:=D) (H:=H) (λx:Value=>x) (l.map unV);rw[show((l.map unV).map λx=>AV.v x)=l from A4i h]at this;exact this
section
variable{e sz m:Nat}{ie i2:TI}{cs:Is}
def B8x(hsz:sz≠0)(hz:(B2 ie.zero).length=sz)(hk:∀K:KV,Gt e sz ie 0 [] [] K=K (.sl sz 0 0 0) [(0,.cells false e [])])(hc:cs.length=m*sz)(h1:cs.all AV.one=true)(hv:cs.all isV=true)(p:(jC i2.d&&V3 sz (.list m cs))=true)(k:∀(H:Hp)(K:Nat->Is->Af),Ui H (.list m cs) K=K m cs)(hb:m*ie.bytes<=70368744177664)(hm:m<=70368744177664)(j:0<m):
 ∃f c,(∀K:KV,(Gt e sz ie 0 [] [] λs g=>Ed e sz ie i2 s (.list m cs) g K)=K f c)/\∀b,∃q,Fx b depth f (.list m cs) c q:=by
 have h:AZ [(0,.cells false e [])] e sz (.sl sz 0 0 0) 0 []:=.inr ⟨0,false,rfl,rfl,by simp⟩;obtain⟨f,c,a1,a2,t,u⟩:=apt (ie:=ie) (i2:=i2) h (λK=>k _ K) hc h1 hsz hz p (by rw[Kk];exact hb) (by rw[Kk];exact hm);rw[Kk,l35]at a2;refine⟨f,c,λK=>?_,λb=>?_⟩
 ·rw[hk];exact a1 K
 ·rcases a2 with⟨_,h2,_⟩|⟨r,q,rfl,h2,i⟩
  ·omega
  ·exact⟨_,WS (D:=depth-1) h2 i (B7P cs hv)⟩
def hbt{b m:Nat}(h:b<=1000)(c:m<999):(m+1)*b<=70368744177664:=by
 have:=Nat.mul_le_mul (show m+1<=1000 by omega) h;omega
def Pln(sz:Nat)(a:AV):Prop:=a=A1\/∃m cs,a=.list (m+1) cs/\cs.length=(m+1)*sz/\cs.all AV.one=true/\cs.all isV=true/\m<999
def Pln.fx(h:Pln sz a):Fx true depth a a H false:=by
 rcases h with rfl|⟨m,cs,rfl,_⟩
 ·exact CG
 ·exact Pc
end
def C39(h:Pln 3 a):CS (r! L (n+1)) ET [a] a:=by
 intro K c;rw[Lf];unfold ER XA3;rcases h with rfl|⟨m,cs,rfl,h1,h2,g,i⟩
 ·have e:∀{K:K2},Ap Ay .eql A1 (AV.v (.slice none 0 0)) K=K (Bo true):=λ{K}=>id rfl;rw[e,CA];exact c _ _ λb=>⟨false,CG⟩
 ·have e:∀{K:K2},Ap Ay .eql (.list (m+1) cs) (AV.v (.slice none 0 0)) K=K (Bo false):=λ{K}=>id rfl;rw[e,Bm];obtain⟨k,j,d,f⟩:=B8x (e:=AT) (sz:=3) (ie:=B1) (i2:=Ay) (by decide) rfl (λK=>by kernel_rfl) h1 h2 g rfl (λH K=>Uh) (hbt (show B1.bytes<=1000 by decide) i) (by omega) (by omega);rw[d];exact c _ _ f
def C38(h:Pln 20 a):CS (r! L (n+1)) D8 [a] a:=by
 intro K c;rw[Le];unfold XA0 XA3;rcases h with rfl|⟨m,cs,rfl,h1,h2,g,i⟩
 ·have e:∀{K:K2},Ap Ai .eql A1 (AV.v (.slice none 0 0)) K=K (Bo true):=λ{K}=>id rfl;rw[e,CA];exact c _ _ λb=>⟨false,CG⟩
 ·have e:∀{K:K2},Ap Ai .eql (.list (m+1) cs) (AV.v (.slice none 0 0)) K=K (Bo false):=λ{K}=>id rfl;rw[e,Bm];obtain⟨k,j,d,f⟩:=B8x (e:=A4) (sz:=20) (ie:=Au) (i2:=Ai) (by decide) rfl (λK=>by kernel_rfl) h1 h2 g rfl (λH K=>Uh) (hbt (show Au.bytes<=1000 by decide) i) (by omega) (by omega);rw[d];exact c _ _ f
def C3a(h:Pln 26 a):CS (r! L (n+1)) D9 [a] a:=by
 intro K c;rw[Lg];unfold ES XA3;rcases h with rfl|⟨m,cs,rfl,h1,h2,g,i⟩
 ·have e:∀{K:K2},Ap Ar .eql A1 (AV.v (.slice none 0 0)) K=K (Bo true):=λ{K}=>id rfl;rw[e,CA];exact c _ _ λb=>⟨false,CG⟩
 ·have e:∀{K:K2},Ap Ar .eql (.list (m+1) cs) (AV.v (.slice none 0 0)) K=K (Bo false):=λ{K}=>id rfl;rw[e,Bm];obtain⟨k,j,d,f⟩:=B8x (e:=AL) (sz:=26) (ie:=AD) (i2:=Ar) (by decide) rfl (λK=>by kernel_rfl) h1 h2 g rfl (λH K=>Uh) (hbt (show AD.bytes<=1000 by decide) i) (by omega) (by omega);rw[d];exact c _ _ f
def iR{K:KV}:(r! L (n+1)).call B4 [A1] H K=K A1 H:=by
 rw[Ik];unfold El XA3;have e:∀{K:K2},Ap Ab .eql A1 (AV.v (.slice none 0 0)) K=K (Bo true):=λ{K}=>id rfl;rw[e,CA]
def A2l{f:α->Is}(h:∀a,(f a).all isV=true)(l:List α):(l.flatMap f).all isV=true:=by
 rw[G8];intro x d;obtain⟨a,_,c⟩:=l32.1 d;exact G8.1 (h a) x c
def yU{f:α->Is}(h:∀a,(f a).all AV.one=true)(l:List α):(l.flatMap f).all AV.one=true:=by
 rw[G8];intro x d;obtain⟨a,_,c⟩:=l32.1 d;exact G8.1 (h a) x c
def A1M{ts:Yj}(h:ts.length<=6):Pln 3 (DD ts):=by
 cases ts with
 |nil=>exact .inl rfl
 |cons a l=>
  simp at h;exact .inr ⟨l.length,(a::l).flatMap MC,rfl,dI MC 3 (λ_=>rfl) (a::l),yU (λ_=>rfl) _,A2l (λ_=>rfl) _,by omega⟩
def A7Y{ks:Hb}(h1:1<=ks.length)(h2:ks.length<=6):Pln 20 (B0 ks):=by
 cases ks with
 |nil=>simp at h1
 |cons a l=>
  simp at h2;exact .inr ⟨l.length,(a::l).flatMap GP,rfl,dI GP 20 (λ_=>rfl) (a::l),yU (λ_=>rfl) _,A2l (λ_=>rfl) _,by omega⟩
def A7X{xs:List Nd}(h1:1<=xs.length)(h2:xs.length<=9):Pln 26 (BL xs):=by
 cases xs with
 |nil=>simp at h1
 |cons a l=>
  simp at h2;exact .inr ⟨l.length,(a::l).flatMap xT,rfl,dI xT 26 (λ_=>rfl) (a::l),yU (λ_=>rfl) _,A2l (λ_=>rfl) _,by omega⟩
def Cd.fT(c:Cd):AV:=(c.csP A1).getD 28 .dk
def Cd.fI(c:Cd):AV:=(c.csP A1).getD 33 .dk
def Cd.fN(c:Cd):AV:=(c.csP A1).getD 34 .dk
def XK(c:Cd)(P:AV):(c.csP P).getD 28 .dk=c.fT/\(c.csP P).getD 31 .dk=P/\(c.csP P).getD 33 .dk=c.fI/\(c.csP P).getD 34 .dk=c.fN/\(c.csP P).getD 66 .dk=A1/\(c.csP P).getD 67 .dk=A1:=by
 match c with
 |.re b u=>exact⟨rfl,rfl,rfl,rfl,rfl,rfl⟩
 |.co b p ps none=>exact⟨rfl,rfl,rfl,rfl,rfl,rfl⟩
 |.co b p ps (some (k,vd))=>exact⟨rfl,rfl,rfl,rfl,rfl,rfl⟩
def XI(c:Cd)(P:AV):(c.csP P).set 28 c.fT=c.csP P/\(∀Q,(c.csP P).set 31 Q=c.csP Q)/\(c.csP P).set 33 c.fI=c.csP P/\(c.csP P).set 34 c.fN=c.csP P/\(c.csP P).set 66 A1=c.csP P/\(c.csP P).set 67 A1=c.csP P:=by
 match c with
 |.re b u=>exact⟨rfl,λQ=>rfl,rfl,rfl,rfl,rfl⟩
 |.co b p ps none=>exact⟨rfl,λQ=>rfl,rfl,rfl,rfl,rfl⟩
 |.co b p ps (some (k,vd))=>exact⟨rfl,λQ=>rfl,rfl,rfl,rfl,rfl⟩
def B8y{c:Cd}(h:c.Ok):Pln 3 c.fT/\Pln 20 c.fI/\Pln 26 c.fN:=by
 match c,h with
 |.re b u,⟨hb,_⟩=>exact⟨A1M hb.ts.len,.inl rfl,.inl rfl⟩
 |.co b p ps none,⟨hb,d,_⟩=>exact⟨A1M hb.ts.len,A7Y d.k1 (by have:=d.k3;omega),A7X (by have:=d.k1;show 1<=(Kd p.ks++p.x.nd).length;rw[EJ,Dz];omega) (by
  have:=d.k3;show(Kd p.ks++p.x.nd).length<=9;rw[EJ,Dz];have:p.x.nd.length<=1:=by cases p.x<;>simp[Ex.nd]
  omega)⟩
 |.co b p ps (some (k,vd)),⟨hb,d,_⟩=>exact⟨A1M hb.ts.len,A7Y d.k1 (by have:=d.k3;omega),A7X (by have:=d.k1;show 1<=(Kd p.ks++p.x.nd).length;rw[EJ,Dz];omega) (by
  have:=d.k3;show(Kd p.ks++p.x.nd).length<=9;rw[EJ,Dz];have:p.x.nd.length<=1:=by cases p.x<;>simp[Ex.nd]
  omega)⟩
def Pln.cell{sz:Nat}(h:Pln sz a):B2 a=[a]/\AV.one a=true:=by
 rcases h with rfl|⟨m,cs,rfl,_⟩<;>exact⟨rfl,rfl⟩
def MT.cell{l:List AQ}(h:MT H v l):B2 v=[v]/\AV.one v=true:=by
 rcases h with⟨rfl,_⟩|⟨_,_,_,_,rfl,_⟩<;>exact⟨rfl,rfl⟩
def MT.kp{H c:Hp}{l:List AQ}(h:MT H v l)(k:∀u y,A6 v u->Al H u=some y->Al c u=some y):MT c v l:=by
 rcases h with h|⟨r,o,q,cs,rfl,h2,d,f⟩
 ·exact .inl h
 ·exact .inr ⟨r,o,q,cs,rfl,k r _ ⟨_,_,_,rfl⟩ h2,d,f⟩
def MT.fxc{l:List AQ}(h:MT H v l)(c:l=[]->v=A1){b:Bool}:∃q,Fx b (D+1) v (Dp l) H q:=by
 cases l with
 |nil=>rw[c rfl];exact⟨false,CG⟩
 |cons a l=>
  rcases h with⟨_,h⟩|⟨r,o,q,cs,rfl,h2,d,f⟩
  ·cases h
  ·refine⟨true,A2h (q':=false) h2 (by rw[D'];omega) ?_⟩;rw[d,D'];have:(AJ (a::l)).take (a::l).length=AJ (a::l):=l1z (by rw[Cb];omega);rw[this];exact A01 _
end
section
variable{L n:Nat}
section
variable{l:List AQ}{H:Hp}{K:KV}{x:Af}{R:Rt}
end
end
section
variable{L n:Nat}
section
variable{l:List AQ}{P:AQ->Bool}
end
section
variable{S out:dn}{x:AQ}
structure Ps(S out:dn):Prop where
 nd:(out.map Cd.id).Nodup
 sub:∀c∈out,c∈S
 cmp:∀c∈out,Cmp S c.id
def Ps.nil:Ps S []:=⟨List.nodup_nil,by simp,by simp⟩
def Ps.add(h:Ps S out){c:Cd}(hc:c∈S)(m:∀p∈c.ps,p∈out.map Cd.id)(hn:c.id∉out.map Cd.id):Ps S (out++[c]):=by
 have g:Cmp S c.id:=.mk hc λp j=>by
  obtain⟨d,f,i⟩:=Us.1 (m p j);rw[<-i];exact h.cmp d f
 refine⟨?_,λd f=>?_,λd f=>?_⟩
 ·rw[Yr];refine l2y.2 ⟨h.nd,by simp,λa k b hb=>?_⟩;simp at hb;subst hb;exact λe=>hn (e▸k)
 ·rcases Yp.1 f with f|f
  ·exact h.sub d f
  ·rw[ZW]at f;subst f;exact hc
 ·rcases Yp.1 f with f|f
  ·exact h.cmp d f
  ·rw[ZW]at f;subst f;exact g
def Ps.len(h:Ps S out):out.length<=S.length:=by
 have:=pF h.nd (l2:=S.map Cd.id) λx a=>by
  obtain⟨c,hc,rfl⟩:=Us.1 a;exact Us.2 ⟨c,h.sub c hc,rfl⟩
 rw[Ub,Ub]at this;exact this
end
end
inductive PC where
 |c (d:Cd)
 |z
def PC.cells:PC->Is
 |.c d=>d.cs
 |.z=>Bi
structure Pk where
 kd:Int
 ds:List AQ
 cs:List PC
structure StIn(l S:dn):Prop where
 sub:∀c∈S,c∈l
 nd:(S.map Cd.id).Nodup
section
variable{l S T:dn}{c d:Cd}{p:Pk}{x:AQ}
def StIn.len(h:StIn l S):S.length<=l.length:=by
 have:=pF h.nd (l2:=l.map Cd.id) λx a=>by
  obtain⟨c,hc,rfl⟩:=Us.1 a;exact Us.2 ⟨c,h.sub c hc,rfl⟩
 rw[Ub,Ub]at this;exact this
def StIn.nil:StIn l []:=⟨by simp,List.nodup_nil⟩
def StIn.own(h:StIn l S)(f:GOk l)(hc:c∈l)(g:c.id∈S.map Cd.id):c∈S:=by
 obtain⟨d,a,e⟩:=Us.1 g;have a1:=IQ f.ids hc;have a2:=IQ f.ids (h.sub d a);rw[e,a1]at a2;rw[l26 a2];exact a
def B3s(h:c.Ok):c.ps.length<=3:=by
 match c,h with
 |.re b u,_=>exact D! _
 |.co b p ps none,⟨_,h2,a,_⟩=>have:=h2.k3;show ps.length<=3;omega
 |.co b p ps (some _),⟨_,h2,a,_⟩=>have:=h2.k3;show ps.length<=3;omega
end
section
variable{L n:Nat}
section
variable{A out:dn}{s:AQ}{H:Hp}{K:KV}{x:Af}
structure Cp(H0:Hp)(m rb:Nat)(out:dn)(H:Hp):Prop where
 mm:Al H m=some (.map false (Fc JA (gE out)) none)
 bb:Al H rb=some (c_ PB [.mp m])
 wf:Wf H
 keep:∀u y,Al H0 u=some y->Al H u=some y
 m0:Ax H0<=m
 b0:Ax H0<=rb
 w0:Wf H0
theorem Cp.it{H0:Hp}{m rb it:Nat}(h:Cp H0 m rb out H)(y:Row)(h1:it≠m/\it≠rb/\Ax H0<=it):Cp H0 m rb out (upd H it y):=
 ⟨by rw[Ah h1.1.symm];exact h.mm,by rw[Ah h1.2.1.symm];exact h.bb,Bs h.wf,λu z a=>by rw[Ah (by have:=h.w0.lt a;omega)];exact h.keep u z a,h.m0,h.b0,h.w0⟩
end
end
section
variable{L n:Nat}
section
variable{A out:dn}{s:AQ}{H:Hp}{K:KV}{x:Af}
end
end
section
variable{L n:Nat}
end
section
variable{F:K2}
variable{L n:Nat}
def SAt(H:Hp)(v:AV)(l:List AQ):Prop:=SA l v\/T7 H v l
section
variable{H H' H0:Hp}{v x iv:AV}{l ids:List AQ}{A:dn}{K:KV}{w:AV}
theorem SAt.len(h:SAt H v l):Bh Ab v F=F (I l.length):=by
 rcases h with h|h
 ·exact h.len
 ·exact h.len
def SAt.get(h:SAt H v l){i:Nat}(a:i<l.length):(Dh Ab v (I i) λp=>A7 Ag p H F)=F (S l[i]):=by
 rcases h with h|h
 ·rw[h.ia a,Hy]
 ·rcases h with⟨rfl,rfl⟩|⟨r,q,c,rfl,h2⟩
  ·simp at a
  ·rw[XG a,AH (p:=i) rfl h2 (by rw[EJ,Cb];omega),T9,l0l (by rw[Cb];exact a)];unfold AJ;rw[vA,JC a];rfl
end
end
section
variable{p q:AV->Bool}
variable{L n:Nat}
def B8v(c:Cd)(g:∀z,p (I z)=true)(h:∀s,p (S s)=true)(hn:p A1=true)(a:p c.fT=true)(d:p c.fI=true)(e:p c.fN=true)(f:p (Dp c.ps)=true):c.cs.all p=true:=by
 match c,a,d,e,f with
 |.re b u,a,_,_,_=>
  have a:p (DD b.ts)=true:=a;show(C6 1 b.m (uu u) (qn b.c) (qd b.c) (DD b.ts) (qn b.r) (qd b.r) A1 0 A1 A1 u0 r0 0).all p=true;simp only[l2j,l34,g,h,hn,a,D?]
 |.co b q ps none,a,d,e,f=>
  have a:p (DD b.ts)=true:=a;have d:p (B0 q.ks)=true:=d;have e:p (BL q.xs)=true:=e;have f:p (Dp ps)=true:=f;show(C6 2 b.m (uu q.out) (qn b.c) (qd b.c) (DD b.ts) (qn b.r) (qd b.r) (Dp ps) q.id (B0 q.ks) (BL q.xs) (uu q.out) r0 0).all p=true;simp only[l2j,l34,g,h,hn,a,d,e,f,D?]
 |.co b q ps (some (k,vd)),a,d,e,f=>
  have a:p (DD b.ts)=true:=a;have d:p (B0 q.ks)=true:=d;have e:p (BL q.xs)=true:=e;have f:p (Dp ps)=true:=f;show(C6 3 b.m (uu q.out) (qn b.c) (qd b.c) (DD b.ts) (qn b.r) (qd b.r) (Dp ps) q.id (B0 q.ks) (BL q.xs) (uu q.out) (rr k) vd).all p=true;simp only[l2j,l34,g,h,hn,a,d,e,f,D?]
def A6T(h:∀t:Int×Int,(MC t).all q=true)(ts:Yj):(ts.flatMap MC).all q=true:=by
 rw[G8];intro x d;obtain⟨a,_,c⟩:=l32.1 d;exact G8.1 (h a) x c
def A8C(h:∀k:Nat,(GP k).all q=true)(ks:Hb):(ks.flatMap GP).all q=true:=by
 rw[G8];intro x d;obtain⟨a,_,c⟩:=l32.1 d;exact G8.1 (h a) x c
def A8h(h:∀y:Nd,(xT y).all q=true)(xs:List Nd):(xs.flatMap xT).all q=true:=by
 rw[G8];intro x d;obtain⟨a,_,c⟩:=l32.1 d;exact G8.1 (h a) x c
def A6W(h:∀s,q (S s)=true)(l:List AQ):(AJ l).all q=true:=by
 rw[G8];intro x c;obtain⟨a,_,rfl⟩:=Us.1 c;exact h a
def A6S(hn:p A1=true)(a:∀n l,l.all Yu=true->l.all (pl 4)=true->p (.list n l)=true)(ts:Yj):p (DD ts)=true:=by
 cases ts with
 |nil=>exact hn
 |cons t ts=>exact a _ _ (A6T (λ_=>rfl) _) (A6T (λ_=>rfl) _)
def B46(hn:p A1=true)(a:∀n l,l.all Yu=true->l.all (pl 4)=true->p (.list n l)=true)(ks:Hb):p (B0 ks)=true:=by
 cases ks with
 |nil=>exact a _ _ rfl rfl
 |cons t ts=>exact a _ _ (A8C (λ_=>rfl) _) (A8C (λ_=>rfl) _)
def B3T(hn:p A1=true)(a:∀n l,l.all Yu=true->l.all (pl 4)=true->p (.list n l)=true)(xs:List Nd):p (BL xs)=true:=by
 cases xs with
 |nil=>exact a _ _ rfl rfl
 |cons t ts=>exact a _ _ (A8h (λ_=>rfl) _) (A8h (λ_=>rfl) _)
def C05(hn:p A1=true)(a:∀n l,l.all Yu=true->l.all (pl 4)=true->p (.list n l)=true)(ps:List AQ):p (Dp ps)=true:=by
 cases ps with
 |nil=>exact hn
 |cons t ts=>exact a _ _ (A6W (λ_=>rfl) _) (A6W (λ_=>rfl) _)
def C1x(c:Cd)(d:∀z,p (I z)=true)(e:∀s,p (S s)=true)(hn:p A1=true)(a:∀n l,l.all Yu=true->l.all (pl 4)=true->p (.list n l)=true):c.cs.all p=true:=by
 refine B8v c d e hn ?_ ?_ ?_ (C05 hn a _)
 ·match c with
  |.re b u=>exact A6S hn a b.ts
  |.co b q ps none=>exact A6S hn a b.ts
  |.co b q ps (some (k,vd))=>exact A6S hn a b.ts
 ·match c with
  |.re b u=>exact hn
  |.co b q ps none=>exact B46 hn a q.ks
  |.co b q ps (some (k,vd))=>exact B46 hn a q.ks
 ·match c with
  |.re b u=>exact hn
  |.co b q ps none=>exact B3T hn a q.xs
  |.co b q ps (some (k,vd))=>exact B3T hn a q.xs
def A2O(c:Cd):c.cs.all (pl 5)=true:=C1x c (λ_=>rfl) (λ_=>rfl) rfl λ_ _ _ h=>h
section
variable{H:Hp}{D:Nat}
end
section
variable{A:dn}{H:Hp}{x:AV}{w:AV}{K:KV}
end
end
section
variable{F:K2}{k:Ru}{t:Int×Int}{ks:Hb}
variable{L n:Nat}
def A2A{ks:List LK}{xs:Hx}(h:fits ks xs=true){K:K2}:PW ks .eql (.agg (xs.map AV.v)) (.agg (xs.map AV.v)) K=K (Bo true):=by
 rw[qO];exact A0v xs h K
def A2B{ks:List LK}{xs:Hx}(h:fits ks xs=true){K:K2}:PW ks .neq (.agg (xs.map AV.v)) (.agg (xs.map AV.v)) K=K (Bo false):=by
 have e:PW ks .neq (.agg (xs.map AV.v)) (.agg (xs.map AV.v)) K=Yt (xs.map AV.v) λc=>Yt (xs.map AV.v) λd=>ck (fits ks c) (match VW c d,BinOp.neq with
  |some q,.eql=>bB q K
  |some q,.neq=>bB (!q) K
  |_,_=>none):=rfl
 rw[e,mD,mD,wF h,h];show bB (!true) K=_;rw[MM];rfl
section
variable{H:Hp}{K:K2}{a b:Ha}{x0:Af}
def B87:PW IC .eql (.agg [S a,S b]) (.agg [S a,S b]) K=K (Bo true):=A2A (ks:=IC) (xs:=[.string ⟨⟨a⟩⟩,.string ⟨⟨b⟩⟩]) rfl
def B86:PW SD .neq (.agg (MC t)) (.agg (MC t)) K=K (Bo false):=A2B (ks:=SD) (xs:=[.int .i64 t.1,.string ⟨⟨qn t.2⟩⟩,.string ⟨⟨qd t.2⟩⟩]) rfl
def B88{x:Nd}:PW HQ .neq (.agg x.cs) (.agg x.cs) K=K (Bo false):=
 A2B (ks:=HQ) (xs:=[.int .i64 x.op,.string ⟨⟨x.vn⟩⟩,.string ⟨⟨x.vd⟩⟩,.int .i64 x.u.p0,.int .i64 x.u.q0,.int .i64 x.u.p1,.int .i64 x.u.q1,.int .i64 x.u.p2,.int .i64 x.u.q2,.int .i64 x.u.p3,.int .i64 x.u.q3,.int .i64 x.u.p4,.int .i64 x.u.q4,.int .i64 x.u.p5,.int .i64 x.u.q5,.int .i64 x.u.p6,.int .i64 x.u.q6,
  .string ⟨⟨x.u.fn⟩⟩,.string ⟨⟨x.u.fd⟩⟩,.string ⟨⟨x.u.on⟩⟩,.string ⟨⟨x.u.od⟩⟩,.int .i64 x.u.kd,.int .i64 x.u.sc,.int .i64 x.n,.int .i64 x.l,.int .i64 x.r]) rfl
def B85{u:UD}:PW GT .neq (.agg (BX u)) (.agg (BX u)) K=K (Bo false):=B8k
def A95{u:UD}:PW GT .eql (.agg (BX u)) (.agg (BX u)) K=K (Bo true):=by rw[qO];exact dX u K
def B89{r:RD}:PW GU .eql (.agg r.cs) (.agg r.cs) K=K (Bo true):=
 A2A (ks:=GU) (xs:=[.int .i64 r.k,.string ⟨⟨r.a1⟩⟩,.string ⟨⟨r.a2⟩⟩,.string ⟨⟨r.b1⟩⟩,.string ⟨⟨r.b2⟩⟩,.string ⟨⟨r.c1⟩⟩,.string ⟨⟨r.c2⟩⟩,.string ⟨⟨r.d1⟩⟩,.string ⟨⟨r.d2⟩⟩]) rfl
def C1r{c d e f g h i j:Int}:PW Vx .eql (.agg [I c,I d,I e,I f,I g,I h,I i,I j]) (.agg [I c,I d,I e,I f,I g,I h,I i,I j]) K=K (Bo true):=
 A2A (ks:=Vx) (xs:=[.int .i64 c,.int .i64 d,.int .i64 e,.int .i64 f,.int .i64 g,.int .i64 h,.int .i64 i,.int .i64 j]) rfl
def B3j:A7 B1 (.iptr (MC t)) H F=F (.agg (MC t)):=r_ rfl
def A8g{z:Int}{ty:TI}:Ap ty .neq (I z) (I z) F=F (Bo false):=by rw[HF,Ki rfl];rfl
def C1q{z:Int}{ty:TI}:Ap ty .eql (I z) (I z) F=F (Bo true):=by rw[Dn,Ki rfl]
def A9L{ty:Nat}{cs:Is}{F:AV->KV}(h1:cs.all AV.one=true)(e:∀a b H,Al H a=some (c_ ty cs)->Al H b=some (c_ ty cs)->Wf H->F (.ptr a 0 0) (.ptr b 0 0) H=x0):
 (Hd ty (.agg cs) [] λv1 c=>Hd ty (.agg cs) c λf d=>F v1 f d)=x0:=by
 rw[Fb h1,Fb h1];exact e _ _ _ (AK (H:=[(Ax [],c_ ty cs)]) (Nat.lt_succ_self _) (Av (by simp))) (Av (by simp)) (AM (AM E1))
end
section
variable{H:Hp}{K:KV}{x0:Af}{a b:Nat}
theorem A7N{ts:Yj}(c:ts.length<1000)(hk:k H=x0):
 ∀(fuel i:Nat),ts.length<fuel+i->i<=ts.length->Dw (L+20) (r! L n) K k fuel (DD ts) (DD ts) (I ts.length) (I i) H=x0
 |0,i,h1,h2=>by omega
 |fuel+1,i,h1,h2=>by
  rw[K1];unfold EE;by_cases h:i<ts.length
  ·rw[Fo (by omega),CA];simp only[SG h,B3j,B86,BN];rw[Bm,Dg (by omega)];exact A7N c hk fuel (i+1) (by omega) (by omega)
  ·rw[XA2 (by omega),Bm];exact hk
def q_t{ts:Yj}(d:ts.length<1000)(e:1000<L):CS (r! L (n+1)) Cg [DD ts,DD ts] (Bo true):=by
 intro K c;rw[Lb];unfold EO;simp only[NR,A8g,Bm,BJ];exact A7N (n:=n) d (c _ _ λb=>⟨false,CG⟩) (L+20) 0 (by omega) (by omega)
theorem A7M(c:ks.length<1000)(hk:k H=x0):
 ∀(fuel i:Nat),ks.length<fuel+i->i<=ks.length->Dv (L+20) (r! L n) K k fuel (B0 ks) (B0 ks) (I ks.length) (I i) H=x0
 |0,i,h1,h2=>by omega
 |fuel+1,i,h1,h2=>by
  rw[K0];unfold ED;by_cases h:i<ks.length
  ·rw[Fo (by omega),CA];simp only[XH h,XF,B85,BN];rw[Bm,Dg (by omega)];exact A7M c hk fuel (i+1) (by omega) (by omega)
  ·rw[XA2 (by omega),Bm];exact hk
def q_u(d:ks.length<1000)(e:1000<L):CS (r! L (n+1)) Cc [B0 ks,B0 ks] (Bo true):=by
 intro K c;rw[KZ];unfold EN;simp only[NS,A8g,Bm,BJ];exact A7M (n:=n) d (c _ _ λb=>⟨false,CG⟩) (L+20) 0 (by omega) (by omega)
theorem A7P{xs:List Nd}(c:xs.length<1000)(hk:k H=x0):
 ∀(fuel i:Nat),xs.length<fuel+i->i<=xs.length->Dx (L+20) (r! L n) K k fuel (BL xs) (BL xs) (I xs.length) (I i) H=x0
 |0,i,h1,h2=>by omega
 |fuel+1,i,h1,h2=>by
  rw[K3];unfold EF;by_cases h:i<xs.length
  ·rw[Fo (by omega),CA];simp only[dW h,dU,B88,BN];rw[Bm,Dg (by omega)];exact A7P c hk fuel (i+1) (by omega) (by omega)
  ·rw[XA2 (by omega),Bm];exact hk
def q_n{xs:List Nd}(d:xs.length<1000)(e:1000<L):CS (r! L (n+1)) Ch [BL xs,BL xs] (Bo true):=by
 intro K c;rw[Ld];unfold EP;simp only[RW,A8g,Bm,BJ];exact A7P (n:=n) d (c _ _ λb=>⟨false,CG⟩) (L+20) 0 (by omega) (by omega)
theorem A7O{l:List AQ}(c:l.length<1000)(hk:k H=x0):
 ∀(fuel i:Nat),l.length<fuel+i->i<=l.length->F7 (L+20) (r! L n) K k fuel (Dp l) (Dp l) (I l.length) (I i) H=x0
 |0,i,h1,h2=>by omega
 |fuel+1,i,h1,h2=>by
  rw[LX];unfold F8 Lo Az Fk;by_cases h:i<l.length
  ·rw[Fo (by omega),CA];simp only[(Ng l).ia h,Hy,BN,Ul,decide_true,Bool.not_true];rw[Bm,Dg (by omega)];exact A7O c hk fuel (i+1) (by omega) (by omega)
  ·rw[XA2 (by omega),Bm];exact hk
def q_s{l:List AQ}(d:l.length<1000)(e:1000<L):CS (r! L (n+1)) FX [Dp l,Dp l] (Bo true):=by
 intro K c;rw[MQ];unfold FV Az MS Fk;simp only[RU,A8g,Bm,BJ];exact A7O (n:=n) d (c _ _ λb=>⟨false,CG⟩) (L+20) 0 (by omega) (by omega)
def Xt{l:List AQ}:Fx true depth (Dp l) (Dp l) H false:=by cases l<;>exact λK=>by kernel_rfl
def C2B{l:List AQ}(e:l.length<1000)(d:1000<L):CS (r! L (n+2)) Bg [Dp l,Dp l] (Bo true):=by
 intro K c;rw[Od];unfold GL;rw[AE (q_s (n:=n) e d) (Aq Xt (Aq Xt AG))];exact c _ _ λb=>⟨false,CG⟩
def C2C{ts:Yj}{c1 c2 r1 r2:Ha}(f:ts.length<1000)(e:1000<L):CS (r! L (n+2)) HP [.agg (Lp c1 c2 (DD ts) r1 r2),.agg (Lp c1 c2 (DD ts) r1 r2)] (Bo true):=by
 intro K d;rw[kX];unfold Tn;refine A9L (by cases ts<;>rfl) λa b H c hb _=>?_;have g:∀{F:K2},A7 Ay (.ptr a 2 0) H F=F (DD ts):=λ{F}=>AH (p:=2) rfl c (by show 2<5;decide);have h:∀{F:K2},A7 Ay (.ptr b 2 0) H F=F (DD ts):=λ{F}=>AH (p:=2) rfl hb (by show 2<5;decide);have ca:∀{F:K2},A7 Aw (.ptr a 0 0) H F=F (.agg [S c1,S c2]):=λ{F}=>Dl rfl c (by show 0+2<=5;decide);have cb:∀{F:K2},A7 Aw (.ptr b 0 0) H F=F (.agg [S c1,S c2]):=λ{F}=>Dl rfl hb (by show 0+2<=5;decide);have ra:∀{F:K2},A7 Aw (.ptr a 3 0) H F=F (.agg [S r1,S r2]):=λ{F}=>Dl rfl c (by show 3+2<=5;decide);have rb:∀{F:K2},A7 Aw (.ptr b 3 0) H F=F (.agg [S r1,S r2]):=λ{F}=>Dl rfl hb (by show 3+2<=5;decide);have fx:Fx true depth (DD ts) (DD ts) H false:=by cases ts<;>exact λK=>by kernel_rfl
 have eq:∀{F:K2},Aj (r! L (n+1)) Cg [DD ts,DD ts] H F=F (Bo true):=λ{F}=>AE (q_t (n:=n) f e) (Aq fx (Aq fx AG));simp only[VY,ca,cb,ra,rb,g,h,B87,gT,Ck,Xu,eq];exact d _ _ λb=>⟨false,CG⟩
def C2z{xs:List Nd}{id:Int}{o:UD}(h1:ks.length<1000)(h2:xs.length<1000)(e:1000<L):CS (r! L (n+2)) D1 [.agg (Bp id (B0 ks) (BL xs) o),.agg (Bp id (B0 ks) (BL xs) o)] (Bo true):=by
 intro K h;rw[YM];unfold O8;refine A9L (by rfl) λa b H c hb _=>?_;have i:∀{F:K2},A7 Ai (.ptr a 1 0) H F=F (B0 ks):=λ{F}=>AH (p:=1) rfl c (by show 1<23;decide);have j:∀{F:K2},A7 Ai (.ptr b 1 0) H F=F (B0 ks):=λ{F}=>AH (p:=1) rfl hb (by show 1<23;decide);have q:∀{F:K2},A7 Ar (.ptr a 2 0) H F=F (BL xs):=λ{F}=>AH (p:=2) rfl c (by show 2<23;decide);have s:∀{F:K2},A7 Ar (.ptr b 2 0) H F=F (BL xs):=λ{F}=>AH (p:=2) rfl hb (by show 2<23;decide);have v:∀{F:K2},A7 Ac (.ptr a 0 0) H F=F (I id):=λ{F}=>AH (p:=0) rfl c (by show 0<23;decide);have w:∀{F:K2},A7 Ac (.ptr b 0 0) H F=F (I id):=λ{F}=>AH (p:=0) rfl hb (by show 0<23;decide);have x:∀{F:K2},A7 Au (.ptr a 3 0) H F=F (.agg (BX o)):=λ{F}=>Dl rfl c (by show 3+20<=23;decide);have y:∀{F:K2},A7 Au (.ptr b 3 0) H F=F (.agg (BX o)):=λ{F}=>Dl rfl hb (by show 3+20<=23;decide);have d:Fx true depth (B0 ks) (B0 ks) H false:=by cases ks<;>exact λK=>by kernel_rfl
 have fn:Fx true depth (BL xs) (BL xs) H false:=by cases xs<;>exact λK=>by kernel_rfl
 have g:∀{F:K2},Aj (r! L (n+1)) Cc [B0 ks,B0 ks] H F=F (Bo true):=λ{F}=>AE (q_u (n:=n) h1 e) (Aq d (Aq d AG));have f:∀{F:K2},Aj (r! L (n+1)) Ch [BL xs,BL xs] H F=F (Bo true):=λ{F}=>AE (q_n (n:=n) h2 e) (Aq fn (Aq fn AG));simp only[VY,i,j,q,s,v,w,x,y,A95,gT,Ck,Xu,C1q,g,f];exact h _ _ λb=>⟨false,CG⟩
variable{kd:Int}{m:ND}{u:UD}{ca cb:Ha}{T:AV}{ra rb:Ha}{P:AV}{id:Int}{ins nds:AV}{o:UD}{r:RD}{vd:Int}
def A4a(c:AV.one T=true)(d:AV.one P=true)(f:AV.one ins=true)(g:AV.one nds=true):(C6 kd m u ca cb T ra rb P id ins nds o r vd).all AV.one=true:=by
 have e:(C6 kd m u ca cb T ra rb P id ins nds o r vd).all AV.one=(AV.one T&&(AV.one P&&(AV.one ins&&(AV.one nds&&true)))):=rfl;rw[e,c,d,f,g];rfl
abbrev hdC(kd:Int)(m:ND)(vd:Int):Is:=[I kd,I m.lab,I m.num,I m.itm,I m.tim,I m.day,I vd,I 0]
def C2A(C:AV.one T=true)(D:AV.one P=true)(J:AV.one ins=true)(M:AV.one nds=true):CS (r! L (n+1)) Bu [.agg (C6 kd m u ca cb T ra rb P id ins nds o r vd)] (.agg (hdC kd m vd)):=by
 intro K A;rw[Tl];unfold J1;rw[Fb (A4a C D J M),AP (cs:=[zI,zI,zI,zI,zI,zI,zI,zI]) rfl];generalize j:((Ax [],c_ Ad (C6 kd m u ca cb T ra rb P id ins nds o r vd))::[]:Hp)=f;have N:Wf f:=by rw[<-j];exact AM E1
 have h2:Al f (Ax [])=some (c_ Ad (C6 kd m u ca cb T ra rb P id ins nds o r vd)):=by rw[<-j];exact Av (by simp)
 have B:=AK (x:=.cells true Xj [zI,zI,zI,zI,zI,zI,zI,zI]) (N.lt h2) h2;have hb:=Av (H:=f) (x:=.cells true Xj [zI,zI,zI,zI,zI,zI,zI,zI]) (by simp);generalize ((Ax f,c_ Xj [zI,zI,zI,zI,zI,zI,zI,zI])::f:Hp)=c at*;generalize Ax []=a at*;have e:∀{i:Nat}{t:TI}(h1:t.d.isAgg=false)(h2:i<68){F:K2},A7 t (.ptr a i 0) c F=F ((C6 kd m u ca cb T ra rb P id ins nds o r vd).getD i .dk):=λ{i t}h1 h2{F}=>AH (p:=i) h1 B h2;have q:∀{F:K2},A7 Ac (.ptr a 0 0) c F=F (I kd):=λ{F}=>e (i:=0) rfl (by decide);have a1:∀{F:K2},A7 Ac (.ptr a 1 0) c F=F (I m.lab):=λ{F}=>e (i:=1) rfl (by decide);have a2:∀{F:K2},A7 Ac (.ptr a 2 0) c F=F (I m.num):=λ{F}=>e (i:=2) rfl (by decide);have s:∀{F:K2},A7 Ac (.ptr a 3 0) c F=F (I m.itm):=λ{F}=>e (i:=3) rfl (by decide);have v:∀{F:K2},A7 Ac (.ptr a 4 0) c F=F (I m.tim):=λ{F}=>e (i:=4) rfl (by decide);have w:∀{F:K2},A7 Ac (.ptr a 5 0) c F=F (I m.day):=λ{F}=>e (i:=5) rfl (by decide);have g:∀{F:K2},A7 Ac (.ptr a 64 0) c F=F (I vd):=λ{F}=>e (i:=64) rfl (by decide);have h:∀{F:K2},A7 Ac (.ptr a 65 0) c F=F (I 0):=λ{F}=>e (i:=65) rfl (by decide);have y:∀{F:K2},BZ On [(0,1,I kd),(1,1,I m.lab),(2,1,I m.num),(3,1,I m.itm),(4,1,I m.tim),(5,1,I m.day),(6,1,I vd),(7,1,I 0)] F=F (.agg (hdC kd m vd)):=λ{F}=>r_ rfl;have f65:∀{F:K2},Cl 0 (.ptr a 65 0) F=F (.ptr a 65 0):=λ{F}=>r_ rfl;simp only[VY,f65,q,a1,a2,s,v,w,g,h,y];rw[Bv (vs:=hdC kd m vd) hb rfl rfl rfl,AX (cs:=hdC kd m vd) rfl rfl (A5 hb)];exact A _ _ λb=>⟨false,λK=>by kernel_rfl⟩
def B97{v:AV}:C7 (E (L+20)) (r! L (n+40)) (.fn (.func Bu) [] []) [v] H K=Aj (r! L (n+40)) Bu [v] H λw=>K w H:=by
 show RM [v] [] (λc=>RM [] c λall=>A0f ((E (L+20)).ne Bu) all H K (@Bool.rec (λ_=>Af) (zpm (E (L+20)) Bu (r! L (n+40)) all H λv=>K v H) ((r! L (n+40)).call Bu all H K) ((E (L+20)).imp Bu)))=_;rw[I6,I6,show(E (L+20)).ne Bu=false from rfl,show(E (L+20)).imp Bu=false from rfl];rfl
def B75(D:AV.one T=true)(J:AV.one P=true)(M:AV.one ins=true)(N:AV.one nds=true)(Y:pl 6 (.agg (C6 kd m u ca cb T ra rb P id ins nds o r vd))=true)(fx:∀H,Fx true depth (.agg (C6 kd m u ca cb T ra rb P id ins nds o r vd)) (.agg (C6 kd m u ca cb T ra rb P id ins nds o r vd)) H false)(R:PS (r! L (n+40)) HP [.agg (Lp ca cb T ra rb),.agg (Lp ca cb T ra rb)] (Bo true))(V:PS (r! L (n+40)) D1 [.agg (Bp id ins nds o),.agg (Bp id ins nds o)] (Bo true))(h2:PS (r! L (n+40)) Bg [P,P] (Bo true))(Q:PS (r! L (n+40)) Bg [A1,A1] (Bo true)):
 CS (r! L (n+41)) Ew [.agg (C6 kd m u ca cb T ra rb P id ins nds o r vd),.agg (C6 kd m u ca cb T ra rb P id ins nds o r vd)] (Bo true):=by
 intro K X;rw[WK];unfold Mq BK Fk;refine A9L (A4a D J M N) λa b H c hb _=>?_;have hz:∀{K:KV},C7 (E (L+20)) (r! L (n+40)) (.fn (.func Bu) [] []) [.agg (C6 kd m u ca cb T ra rb P id ins nds o r vd)] H K=K (.agg (hdC kd m vd)) H:=λ{K}=>by
  rw[B97];exact AE (C2A (n:=n+39) D J M N) (Aq (fx H) AG)
 have lA:∀{F:K2},A7 Ae (.ptr a 0 0) H F=F (.agg (C6 kd m u ca cb T ra rb P id ins nds o r vd)):=λ{F}=>AX rfl rfl c;have lB:∀{F:K2},A7 Ae (.ptr b 0 0) H F=F (.agg (C6 kd m u ca cb T ra rb P id ins nds o r vd)):=λ{F}=>AX rfl rfl hb;have B:∀{i:Nat}{t:TI}(h1:t.d.isAgg=false)(h2:i<68){F:K2},A7 t (.ptr a i 0) H F=F ((C6 kd m u ca cb T ra rb P id ins nds o r vd).getD i .dk):=λ{i t}h1 h2{F}=>AH (p:=i) h1 c h2;have C:∀{i:Nat}{t:TI}(h1:t.d.isAgg=false)(h2:i<68){F:K2},A7 t (.ptr b i 0) H F=F ((C6 kd m u ca cb T ra rb P id ins nds o r vd).getD i .dk):=λ{i t}h1 h2{F}=>AH (p:=i) h1 hb h2;have f:∀{F:K2},A7 Ab (.ptr a 31 0) H F=F P:=λ{F}=>B (i:=31) rfl (by decide);have v:∀{F:K2},A7 Ab (.ptr b 31 0) H F=F P:=λ{F}=>C (i:=31) rfl (by decide);have O:∀{F:K2},A7 Au (.ptr a 6 0) H F=F (.agg (BX u)):=λ{F}=>Dl rfl c (by show 6+20<=68;decide);have b6:∀{F:K2},A7 Au (.ptr b 6 0) H F=F (.agg (BX u)):=λ{F}=>Dl rfl hb (by show 6+20<=68;decide);have e:∀{F:K2},A7 DR (.ptr a 26 0) H F=F (.agg (Lp ca cb T ra rb)):=λ{F}=>Dl rfl c (by show 26+5<=68;decide);have s:∀{F:K2},A7 DR (.ptr b 26 0) H F=F (.agg (Lp ca cb T ra rb)):=λ{F}=>Dl rfl hb (by show 26+5<=68;decide);have g:∀{F:K2},A7 AI (.ptr a 32 0) H F=F (.agg (Bp id ins nds o)):=λ{F}=>Dl rfl c (by show 32+23<=68;decide);have w:∀{F:K2},A7 AI (.ptr b 32 0) H F=F (.agg (Bp id ins nds o)):=λ{F}=>Dl rfl hb (by show 32+23<=68;decide);have h:∀{F:K2},A7 Da (.ptr a 55 0) H F=F (.agg r.cs):=λ{F}=>Dl rfl c (by show 55+9<=68;decide);have x:∀{F:K2},A7 Da (.ptr b 55 0) H F=F (.agg r.cs):=λ{F}=>Dl rfl hb (by show 55+9<=68;decide);have j:∀{F:K2},A7 Ab (.ptr a 66 0) H F=F A1:=λ{F}=>B (i:=66) rfl (by decide);have y:∀{F:K2},A7 Ab (.ptr b 66 0) H F=F A1:=λ{F}=>C (i:=66) rfl (by decide);have q:∀{F:K2},A7 Ab (.ptr a 67 0) H F=F A1:=λ{F}=>B (i:=67) rfl (by decide);have A:∀{F:K2},A7 Ab (.ptr b 67 0) H F=F A1:=λ{F}=>C (i:=67) rfl (by decide);have Z:∀{F:K2},Aj (r! L (n+40)) HP [.agg (Lp ca cb T ra rb),.agg (Lp ca cb T ra rb)] H F=F (Bo true):=λ{F}=>R H F;have p9:∀{F:K2},Aj (r! L (n+40)) D1 [.agg (Bp id ins nds o),.agg (Bp id ins nds o)] H F=F (Bo true):=λ{F}=>V H F;have p2:∀{F:K2},Aj (r! L (n+40)) Bg [P,P] H F=F (Bo true):=λ{F}=>h2 H F;have p3:∀{F:K2},Aj (r! L (n+40)) Bg [A1,A1] H F=F (Bo true):=λ{F}=>Q H F;have ok:∀{K:Af},Qb (AS (some (.agg (C6 kd m u ca cb T ra rb P id ins nds o r vd),[])) (.agg (C6 kd m u ca cb T ra rb P id ins nds o r vd))) K=K:=λ{K}=>Rk Y;have f66:∀{r:Nat}{F:K2},Cl 1 (.ptr r 65 0) F=F (.ptr r 66 0):=λ{r F}=>r_ rfl;have f67:∀{r:Nat}{F:K2},Cl 2 (.ptr r 65 0) F=F (.ptr r 67 0):=λ{r F}=>r_ rfl;simp only[f66,f67,lA,lB,BN,hz,Ck,C1r,gT,VY,O,b6,A95,Xu,h,x,B89,e,s,Z,g,w,p9,f,v,p2,j,y,q,A,p3,ok];exact X _ _ λb=>⟨false,CG⟩
def q_c{c:Cd}(h:c.Ok)(e:1000<L):CS (r! L (n+41)) Ew [.agg c.cs,.agg c.cs] (Bo true):=by
 have f8:∀{ts:Yj}{c1 c2 r1 r2:Ha},ts.length<=6->PS (r! L (n+40)) HP [.agg (Lp c1 c2 (DD ts) r1 r2),.agg (Lp c1 c2 (DD ts) r1 r2)] (Bo true):=λ{ts c1 c2 r1 r2}f H F=>by
  have fx:Fx true depth (.agg (Lp c1 c2 (DD ts) r1 r2)) (.agg (Lp c1 c2 (DD ts) r1 r2)) H false:=by cases ts<;>exact λK=>by kernel_rfl
  exact AE (C2C (n:=n+38) (by omega) e) (Aq fx (Aq fx AG))
 have f2:∀{ps:List AQ},ps.length<=6->PS (r! L (n+40)) Bg [Dp ps,Dp ps] (Bo true):=λ{ps}f H F=>
  AE (C2B (n:=n+38) (by omega) e) (Aq Xt (Aq Xt AG))
 have f9:∀{p:Pr},p.Ok->PS (r! L (n+40)) D1 [.agg (Bp p.id (B0 p.ks) (BL p.xs) (uu p.out)),.agg (Bp p.id (B0 p.ks) (BL p.xs) (uu p.out))] (Bo true):=λ{p}d H F=>by
  have fx:Fx true depth (.agg (Bp p.id (B0 p.ks) (BL p.xs) (uu p.out))) (.agg (Bp p.id (B0 p.ks) (BL p.xs) (uu p.out))) H false:=λK=>by kernel_rfl
  have g:p.xs.length<1000:=by
   have:=d.k3;show(Kd p.ks++p.x.nd).length<1000;rw[EJ,Dz];have:p.x.nd.length<=1:=by cases p.x<;>simp[Ex.nd]
   omega
  exact AE (C2z (n:=n+38) (by have:=d.k3;omega) g e) (Aq fx (Aq fx AG))
 have f90:PS (r! L (n+40)) D1 [.agg (Bp 0 A1 A1 u0),.agg (Bp 0 A1 A1 u0)] (Bo true):=B3 (λH K=>by kernel_rfl) (by kernel_rfl);have ot:∀ts:Yj,AV.one (DD ts)=true:=λts=>by cases ts<;>rfl
 have op:∀ps:List AQ,AV.one (Dp ps)=true:=λps=>by cases ps<;>rfl
 have f3:=f2 (ps:=[]) (by simp)
 match c,h with
 |.re b u,⟨hb,_⟩=>exact B75 (ot _) (op []) rfl rfl (A2O (.re b u)) (λH=>T3 (D:=9) (c:=.re b u)) (f8 hb.ts.len) f90 f3 f3
 |.co b p ps none,⟨hb,d,f,_⟩=>exact B75 (ot _) (op ps) rfl rfl (A2O (.co b p ps none)) (λH=>T3 (D:=9) (c:=.co b p ps none)) (f8 hb.ts.len) (f9 d) (f2 (by have:=d.k3;omega)) f3
 |.co b p ps (some (k,vd)),⟨hb,d,f,_⟩=>exact B75 (ot _) (op ps) rfl rfl (A2O (.co b p ps (some (k,vd)))) (λH=>T3 (D:=9) (c:=.co b p ps (some (k,vd)))) (f8 hb.ts.len) (f9 d) (f2 (by have:=d.k3;omega)) f3
end
end
def Cd.b:Cd->CB
 |.re b _=>b
 |.co b _ _ _=>b
def nmC(c:Cd):Int×Int:=(c.b.m.lab,c.b.m.num)
def nmX(gs:dn)(x:Sg):Int×Int:=match Jo (gE gs) x with
 |some c=>nmC c
 |none=>(0,0)
def fkG(nm:Sg->Int×Int)(pre:List Sg):List Sg->List OU
 |[]=>[]
 |x::l=>((pre.filter λy=>nm y=nm x).map λy=>(y,x))++fkG nm (pre++[x]) l
def RL(gs:dn):List OU:=IM (fkG (nmX gs) [] (FF (gs.map Cd.id)))
section
variable{gs ls:dn}{nm:Sg->Int×Int}{x y:Sg}{p:OU}{c:Cd}
def A8d(hn:(gs.map Cd.id).Nodup)(h:ls.Perm gs):nmX ls x=nmX gs x:=by
 have d:(ls.map Cd.id).Perm (gs.map Cd.id):=h.map _;unfold nmX;by_cases a:x∈gs.map Cd.id
 ·obtain⟨c,hc,rfl⟩:=Us.1 a;rw[IQ hn hc,IQ (d.symm.nodup hn) (h.mem_iff.2 hc)]
 ·rw[Pt (b:=gE ls) (by rw[Vp];exact λhc=>a (d.mem_iff.1 hc)),Pt (b:=gE gs) (by rw[Vp];exact a)]
def A06(hn:(gs.map Cd.id).Nodup)(h:ls.Perm gs):RL ls=RL gs:=by
 have a:(ls.map Cd.id).Perm (gs.map Cd.id):=h.map _;unfold RL;rw[show nmX ls=nmX gs from funext λx=>A8d hn h,
  HM ((BF _).trans (a.trans (BF _).symm)) (DJ _) (DJ (gs.map Cd.id))]
def B2l(hn:(gs.map Cd.id).Nodup)(hc:c∈gs):nmX gs c.id=nmC c:=by
 unfold nmX;rw[IQ hn hc]
end
section
variable{c:Cd}{j:Nat}
variable{L n:Nat}
abbrev NK:=Int×Int
abbrev kN(k:NK):Value:=.agg #[.int .i64 k.1,.int .i64 k.2]
def xY(m:List (NK×AV)):IH:=m.map λe=>(kN e.1,e.2)
def fxN(x:NK):List (NK×AV)->Nat->Option (Nat×AV)
 |[],_=>none
 |e::b,i=>if e.1=x then some (i,e.2) else fxN x b (i+1)
def C0F{x y:NK}:keq (kN x) (kN y)=some (decide (y=x)):=by
 have e:keq (kN x) (kN y)=some (yO x.1 y.1&&(yO x.2 y.2&&true)):=rfl;rw[e,L0,L0,D?];obtain⟨a,b⟩:=x;obtain⟨c,d⟩:=y;simp only[Prod.mk.injEq,l0y];rw[kZ];simp only[J2,decide_eq_true_eq];constructor<;>rintro⟨rfl,rfl⟩<;>exact⟨rfl,rfl⟩
def lZ(x:NK):∀(b:List (NK×AV))(i:Nat),XB0 (kN x) (xY b) i=some (fxN x b i):=by
 intro b
 induction b with
 |nil=>intro i;rfl
 |cons e b ih=>
  intro i;show XB0 (kN x) ((kN e.1,e.2)::xY b) i=_;rw[Vm,C0F];unfold fxN;by_cases h:e.1=x
  ·rw[CZ h,Ki h]
  ·rw[Cr h,KD h];exact ih (i+1)
def A03{x:NK}:∀{b:List (NK×AV)}{i:Nat},x∉b.map (·.1)->fxN x b i=none:=by
 intro b
 induction b with
 |nil=>intro i _;rfl
 |cons e b ih=>
  intro i h;simp only[VC,Qd,not_or]at h;unfold fxN;rw[Cr (Ne.symm h.1)];exact ih h.2
def A02{x:NK}:∀{b:List (NK×AV)}{i:Nat},x∈b.map (·.1)->∃(j:Nat)(h:j<b.length),b[j].1=x/\fxN x b i=some (i+j,b[j].2):=by
 intro b
 induction b with
 |nil=>intro i h;simp at h
 |cons e b ih=>
  intro i h;unfold fxN;by_cases he:e.1=x
  ·exact⟨0,by simp,he,by rw[CZ he];rfl⟩
  ·rw[Cr he];have d:x∈b.map (·.1):=by
    simp only[VC,Qd]at h;exact h.resolve_left (λa=>he a.symm)
   obtain⟨j,f,h1,h2⟩:=ih (i:=i+1) d;exact⟨j+1,by simp;omega,h1,by rw[h2];simp;omega⟩
def B43{a b:Int}{F:Value->Af}:A2a Pd (.agg [I a,I b]) F=F (kN (a,b)):=id rfl
section
variable{gs:dn}{H H':Hp}{K:KV}{x:Af}{r:Nat}{m:List (NK×AV)}{k:NK}
abbrev Jh(m:List (NK×AV)):Row:=.map false (xY m) (some (List.range m.length,m.length))
def B8g{K:K2}(h:Al H r=some (Jh m))(hk:k∉m.map (·.1)):Tt Ab false (.mp r) (kN k) H K=K A1:=by
 unfold Tt;show IN H r (λx=>WN x λa _=>_)=_;rw[Bq h];show GO (kN k) (xY m) _=_;unfold GO;rw[lZ,A03 hk]<;>rfl
def B8f{K:K2}(h:Al H r=some (Jh m))(d:j<m.length)(he:fxN k m 0=some (j,m[j].2)):Tt Ab false (.mp r) (kN k) H K=K m[j].2:=by
 unfold Tt;show IN H r (λx=>WN x λa _=>_)=_;rw[Bq h];show GO (kN k) (xY m) _=_;unfold GO;rw[lZ,he]
def A9h(h:Al H r=some (Jh m))(hk:k∉m.map (·.1)):dR Ab (.mp r) (kN k) H K=K (.tup [A1,I (m.length:Int)]) (upd H r (Jh (m++[(k,A1)]))):=by
 have e:dR Ab (.mp r) (kN k) H K=IN H r λx=>WN x λd g=>match g with
  |some (a,c)=>GO (kN k) d λf=>match f with
   |none=>JI H r (.map false (d++[(kN k,Ab.zero)]) (some (a++[c],c+1))) λH'=>K (.tup [Ab.zero,.v (.int .i64 (.ofNat c))]) H'
   |some (i,v)=>(match a[i]? with|some b=>K (.tup [v,.v (.int .i64 (.ofNat b))]) H|none=>none)
  |none=>none:=rfl
 rw[e,Bq h];show GO (kN k) (xY m) _=_;unfold GO;rw[lZ,A03 hk];show JI H r (.map false (xY m++[(kN k,A1)]) (some (List.range m.length++[m.length],m.length+1))) _=_;rw[C5,<-List.range_succ];have:Jh (m++[(k,A1)])=.map false (xY m++[(kN k,A1)]) (some (List.range (m.length+1),m.length+1)):=by
  unfold Jh xY;rw[Yr,EJ];rfl
 rw[this];rfl
def A9g(h:Al H r=some (Jh m))(p:j<m.length)(he:fxN k m 0=some (j,m[j].2)):dR Ab (.mp r) (kN k) H K=K (.tup [m[j].2,I (j:Int)]) H:=by
 have e:dR Ab (.mp r) (kN k) H K=IN H r λx=>WN x λd g=>match g with
  |some (a,c)=>GO (kN k) d λf=>match f with
   |none=>JI H r (.map false (d++[(kN k,Ab.zero)]) (some (a++[c],c+1))) λH'=>K (.tup [Ab.zero,.v (.int .i64 (.ofNat c))]) H'
   |some (i,v)=>(match a[i]? with|some b=>K (.tup [v,.v (.int .i64 (.ofNat b))]) H|none=>none)
  |none=>none:=rfl
 rw[e,Bq h];show GO (kN k) (xY m) _=_;unfold GO;rw[lZ,he];show(match(List.range m.length)[j]? with|some b=>K (.tup [m[j].2,.v (.int .i64 (.ofNat b))]) H|none=>none)=_;rw[List.getElem?_range p];rfl
def A45{K:Ru}{v:AV}(h:Al H r=some (Jh m))(f:j<m.length):qV (.mp r) (I (j:Int)) v H K=K (upd H r (Jh (m.set j (m[j].1,v)))):=by
 have e:qV (.mp r) (I (j:Int)) v H K=IN H r λx=>WN x λd g=>match g with
  |some (a,c)=>(match a.findIdx? (λb=>yO (.ofNat b) (j:Int)) with
   |some i=>(match d[i]? with|some p=>JI H r (.map false (d.set i (p.1,v)) (some (a,c))) K|none=>none)
   |none=>none)
  |none=>none:=rfl
 rw[e,Bq h];have q:(List.range m.length).findIdx? (λb=>yO (.ofNat b) (j:Int))=some j:=by
  rw[List.findIdx?_eq_some_iff_getElem];refine⟨by simpa using f,by simp[L0],λi s=>?_⟩;simp only[List.getElem_range,L0,decide_eq_true_eq];intro h1;have:(i:Int)=(j:Int):=h1;omega
 show(match(List.range m.length).findIdx? (λb=>yO (.ofNat b) (j:Int)) with
  |some i=>(match(xY m)[i]? with|some p=>JI H r (.map false ((xY m).set i (p.1,v)) (some (List.range m.length,m.length))) K|none=>none)
  |none=>none)=_
 rw[q];have hm:(xY m)[j]?=some (kN m[j].1,m[j].2):=by unfold xY;rw[vA,JC f];rfl
 show(match(xY m)[j]? with|some p=>JI H r (.map false ((xY m).set j (p.1,v)) (some (List.range m.length,m.length))) K|none=>none)=_;rw[hm];show JI H r (.map false ((xY m).set j (kN m[j].1,v)) (some (List.range m.length,m.length))) K=_;rw[C5];have:Jh (m.set j (m[j].1,v))=.map false ((xY m).set j (kN m[j].1,v)) (some (List.range m.length,m.length)):=by
  unfold Jh xY;rw[List.map_set,List.length_set]
 rw[this]
def C3E{x y:Sg}:Gt DE 2 DP 1 [(0,2,.agg [S x,S y])] H K=K (.sl 2 (Ax H) 0 1) ((Ax H,.cells false DE [S x,S y])::H):=by
 have e:Gt DE 2 DP 1 [(0,2,.agg [S x,S y])] H K=HV H (λs=>K (.sl 2 s 0 1) ((s,.cells false DE [S x,S y])::H)):=r_ rfl;rw[e,BW]
def B2Y{K:K2}:iO 1 Ac (.agg c.cs) K=K (I (nmC c).1):=by
 match c with
 |.re b u=>exact id rfl
 |.co b p ps none=>exact id rfl
 |.co b p ps (some (k,vd))=>exact id rfl
def B2X{K:K2}:iO 2 Ac (.agg c.cs) K=K (I (nmC c).2):=by
 match c with
 |.re b u=>exact id rfl
 |.co b p ps none=>exact id rfl
 |.co b p ps (some (k,vd))=>exact id rfl
end
end
section
variable{L n:Nat}
section
variable{gs:dn}{H H' H0:Hp}{K:KV}{x0:Af}{r:Nat}{m:List (NK×AV)}{k:NK}{x y:Sg}{out:List OU}{vo vo0 v:AV}{ys:List Sg}
def AZ.df{e f sz d m j s:Nat}{v w:AV}{cs cs':Is}(h:AZ H e sz v m cs)(k:AZ H f d w j cs')(hn:e≠f)(g:A6 v s):¬A6 w s:=by
 intro i;obtain⟨_,_,_,rfl⟩:=g;obtain⟨_,_,_,rfl⟩:=i;rcases h with⟨h,_⟩|⟨r1,q1,h,c,_⟩
 ·cases h
 ·injection h with _ h;subst h
  rcases k with⟨k,_⟩|⟨r2,q2,k,a,_⟩
  ·cases k
  ·injection k with _ k;subst k
   rw[c]at a;injection a with a;injection a with _ a
   exact hn a
def AZ.dc{e c sz m s:Nat}{cs cs':Is}{b:Bool}(h:AZ H e sz v m cs)(d:Al H s=some (.cells b c cs'))(hn:e≠c):¬A6 v s:=by
 rintro⟨_,_,_,rfl⟩;rcases h with⟨h,_⟩|⟨r1,q1,h,a,_⟩
 ·cases h
 ·injection h with _ h;subst h
  rw[d]at a;injection a with a;injection a with _ a
  exact hn a.symm
def AZ.dm{e sz m s:Nat}{cs:Is}{b:Bool}{es:IH}{o:Option (Hb×Nat)}(h:AZ H e sz v m cs)(c:Al H s=some (.map b es o)):¬A6 v s:=by
 rintro⟨_,_,_,rfl⟩;rcases h with⟨h,_⟩|⟨r1,q1,h,a,_⟩
 ·cases h
 ·injection h with _ h;subst h
  rw[c]at a;cases a
structure FkI(H0:Hp)(vo0:AV)(out:List OU)(vo:AV)(H:Hp):Prop where
 sl:AZ H DE 2 vo out.length (out.flatMap Yn)
 wf:Wf H
 keep:∀u y,Al H0 u=some y->¬A6 vo0 u->Al H u=some y
 new:∀u,A6 vo u->A6 vo0 u\/Ax H0<=u
 nx:Ax H0<=Ax H
 nil:out=[]->vo=A1
def FkI.add(h:FkI H0 vo0 out vo H)(w0:Wf H0)(hb:out.length<1000000):∃a H',(∀K:KV,(Gt DE 2 DP 1 [(0,2,.agg [S x,S y])] H λv1 f=>Ed DE 2 DP CJ vo v1 f K)=K a H')/\FkI H0 vo0 (out++[(x,y)]) a H':=by
 obtain⟨a,H',h1,h2,g,i,j,p⟩:=zW (ie:=DP) (i2:=CJ) h.sl h.wf (ys:=[S x,S y]) rfl rfl (by decide) rfl (λ_=>rfl) (by show(out.length+1)*32<=_;omega) (by omega);refine⟨a,H',λK=>?_,?_,g,λu z c hn=>?_,λu c=>.inr (gP h.nx (p u c)),gP h.nx i,λe=>absurd e (by simp)⟩
 ·rw[C3E];exact h1 K
 ·rw[EJ,l2g];exact h2
 ·refine j u z (h.keep u z c hn) λhv=>?_;rcases h.new u hv with d|d
  ·exact hn d
  ·have:=w0.lt c;omega
def C1j{t:AV->AV->AV->AV->AV->AV->AV->AV->AV->AV->KV}{a b c d e f g:AV}(w0:Wf H0)(hv:AZ H0 Ao 1 v ys.length (AJ ys))(J:∀u,A6 v u->¬A6 vo0 u)(hb:out.length+ys.length<1000000)(N:∀j H' i,FkI H0 vo0 (out++ys.map λy=>(y,x)) j H'->t a b j (S x) c d e f v g i H'=x0):
 ∀(F i:Nat)(vo:AV)(H:Hp),i<=ys.length->ys.length-i<F->g=I (ys.length:Int)->FkI H0 vo0 (out++(ys.take i).map λy=>(y,x)) vo H->
  RG (L+20) (r! L n) K t F a b vo (S x) c d e f v g (I (i:Int)) H=x0:=by
 intro F
 induction F with
 |zero=>intro i vo H _ h;omega
 |succ F ih=>
  intro i vo H Q P w h;rw[hJ];unfold RI HN Az;rw[w];by_cases q:i<ys.length
  ·rw[Fo (by omega),CA];have A:AZ H Ao 1 v ys.length (AJ ys):=hv.kp λs z M hz=>h.keep s z hz (J s M);obtain⟨O,h1,h2⟩:=A.ia q;rw[h1,h2];have C:∀{F:K2},BZ DP [(0,1,S ys[i]),(1,1,S x)] F=F (.agg [S ys[i],S x]):=λ{F}=>id rfl;rw[C];have p:(out++(ys.take i).map λy=>(y,x)).length<1000000:=by rw[EJ,Ub,E'];omega
   obtain⟨j,H',D,B⟩:=h.add (x:=ys[i]) (y:=x) w0 p;rw[D,Dg (by omega),<-w];have e:(out++(ys.take i).map λy=>(y,x))++[(ys[i],x)]=out++(ys.take (i+1)).map λy=>(y,x):=by
    rw[tO q,Yr,eU];rfl
   rw[e]at B;exact ih (i+1) j H' (by omega) (by omega) w B
  ·rw[XA2 (by omega),Bm,<-w];have e:ys.take i=ys:=l1z (by omega);rw[e]at h;exact N vo H _ h
end
end
section
variable{v':AV}{i j:Nat}
variable{L n:Nat}
section
variable{gs:dn}{H H' H0:Hp}{K:KV}{x0:Af}{r:Nat}{m:List (NK×AV)}{k:NK}{x y:Sg}{out:List OU}{vi vo v:AV}{A pre:List Sg}{nm:Sg->NK}
def uV(nm:Sg->NK)(pre:List Sg)(k:NK):List Sg:=pre.filter λy=>nm y=k
def TT:uV nm (pre++[x]) k=if nm x=k then uV nm pre k++[x] else uV nm pre k:=by
 unfold uV;rw[List.filter_append];by_cases h:nm x=k
 ·rw[CZ h];simp[h]
 ·rw[Cr h];simp[h]
structure FkS(r:Nat)(vi:AV)(A:List Sg)(nm:Sg->NK)(pre:List Sg)(m:List (NK×AV))(out:List OU)(vo:AV)(H:Hp):Prop where
 nmd:Al H r=some (Jh m)
 kd:(m.map (·.1)).Nodup
 val:∀e∈m,AZ H Ao 1 e.2 (uV nm pre e.1).length (AJ (uV nm pre e.1))
 miss:∀k,k∉m.map (·.1)->uV nm pre k=[]
 ids:AZ H Ao 1 vi A.length (AJ A)
 o:AZ H DE 2 vo out.length (out.flatMap Yn)
 d1:∀e∈m,∀u,A6 e.2 u->¬A6 vi u
 d3:m.Pairwise λe e'=>∀u,A6 e.2 u->¬A6 e'.2 u
 wf:Wf H
theorem FkS.kp{c:AV}{a:List OU}(h:FkS r vi A nm pre m out vo H)(w:Wf H')(k:∀u y,Al H u=some y->¬A6 vo u->Al H' u=some y)(g:AZ H' DE 2 c a.length (a.flatMap Yn)):
 FkS r vi A nm pre m a c H':=
 ⟨k _ _ h.nmd (h.o.dm h.nmd),h.kd,λe he=>(h.val e he).kp λs y d f=>k s y f (λhv=>(h.val e he).df h.o (by decide) d hv),h.miss,
  h.ids.kp λs y d f=>k s y f (λhv=>h.ids.df h.o (by decide) d hv),g,h.d1,h.d3,w⟩
def B32(h:FkS r vi A nm pre m out vo H){K:K2}(k:NK):∃v,Tt Ab false (.mp r) (kN k) H K=K v/\AZ H Ao 1 v (uV nm pre k).length (AJ (uV nm pre k))/\(∀u,A6 v u->¬A6 vi u):=by
 by_cases hk:k∈m.map (·.1)
 ·obtain⟨j,a,he,c⟩:=A02 (i:=0) hk;rw[Kk]at c;refine⟨m[j].2,B8f h.nmd a c,?_,h.d1 _ (Of a)⟩;have:=h.val _ (Of a);rw[he]at this;exact this
 ·exact⟨A1,B8g h.nmd hk,.inl ⟨rfl,by rw[h.miss k hk];rfl,by rw[h.miss k hk];rfl⟩,λu d=>absurd d MD⟩
def FkS.dj(h:FkS r vi A nm pre m out vo H)(a:i<m.length)(c:j<m.length)(hn:i≠j):∀u,A6 m[i].2 u->¬A6 m[j].2 u:=by
 rcases Nat.lt_or_ge i j with d|d
 ·exact l20.1 h.d3 i j a c d
 ·intro u h1 h2;exact l20.1 h.d3 j i c a (by omega) u h2 h1
def FkS.kn(h:FkS r vi A nm pre m out vo H)(a:i<m.length)(c:j<m.length)(hn:i≠j):m[i].1≠m[j].1:=by
 intro e;have:=List.getElem_inj (i:=i) (j:=j) (h₀:=by simpa using a) (h₁:=by simpa using c) h.kd;simp only[l2i]at this;exact hn (this.1 e)
theorem FkS.set(h:FkS r vi A nm pre m out vo H)(q:j<m.length)(hk:m[j].1=nm x)(w':Wf H')(hr:Al H' r=some (Jh (m.set j (m[j].1,v'))))(hv:AZ H' Ao 1 v' (uV nm pre (nm x)++[x]).length (AJ (uV nm pre (nm x)++[x])))(D:∀u,A6 v' u->Ax H<=u)(kp:∀u y,Al H u=some y->u≠r->¬A6 m[j].2 u->Al H' u=some y):FkS r vi A nm (pre++[x]) (m.set j (m[j].1,v')) out vo H':=by
 have f:(m.set j (m[j].1,v')).map (·.1)=m.map (·.1):=by
  rw[List.map_set];have:(m.map (·.1)).set j ((m.map (·.1))[j]'(by simpa using q))=m.map (·.1):=List.set_getElem_self (by simpa using q);simpa using this
 refine⟨hr,by rw[f];exact h.kd,λe he=>?_,λk t=>?_,?_,?_,λe he u B=>?_,?_,w'⟩
 ·obtain⟨i,p,rfl⟩:=List.getElem_of_mem he;rw[List.length_set]at p;rw[List.getElem_set];by_cases a:j=i
  ·subst a;rw[CZ rfl];show AZ H' Ao 1 v' (uV nm (pre++[x]) m[j].1).length _;rw[hk,TT,CZ rfl];exact hv
  ·rw[Cr a,TT,Cr (λe=>h.kn q p a (hk.trans e))];have g:=h.val _ (Of p);exact g.kp λs y w C=>kp s y C (λe=>g.dm h.nmd (e▸w)) (h.dj p q (Ne.symm a) s w)
 ·rw[f]at t;rw[TT,Cr (λe=>t (by rw[<-e,<-hk];exact Us.2 ⟨_,Of q,rfl⟩))];exact h.miss k t
 ·exact h.ids.kp λs y g C=>kp s y C (λe=>h.ids.dm h.nmd (e▸g)) (λhv=>h.d1 _ (Of q) s hv g)
 ·exact h.o.kp λs y g C=>kp s y C (λe=>h.o.dm h.nmd (e▸g)) (λhv=>(h.val _ (Of q)).df h.o (by decide) hv g)
 ·obtain⟨i,p,rfl⟩:=List.getElem_of_mem he;rw[List.length_set]at p;rw[List.getElem_set]at B;by_cases a:j=i
  ·rw[CZ a]at B;intro hv;have:=h.ids.lt h.wf hv;have:=D u B;omega
  ·rw[Cr a]at B;exact h.d1 _ (Of p) u B
 ·rw[l20];intro i1 i2 h1 h2 M u d c;rw[List.length_set]at h1 h2;rw[List.getElem_set]at d c;by_cases F:j=i1
  ·rw[CZ F]at d;rw[Cr (by omega)]at c;have:=(h.val _ (Of h2)).lt h.wf c;have:=D u d;omega
  ·rw[Cr F]at d;by_cases J:j=i2
   ·rw[CZ J]at c;have:=(h.val _ (Of h1)).lt h.wf d;have:=D u c;omega
   ·rw[Cr J]at c;exact h.dj h1 h2 (by omega) u d c
def FkS.new(h:FkS r vi A nm pre m out vo H)(hk:nm x∉m.map (·.1))(w':Wf H')(hr:Al H' r=some (Jh (m++[(nm x,v')])))(hv:AZ H' Ao 1 v' 1 [S x])(C:∀u,A6 v' u->Ax H<=u)(kp:∀u y,Al H u=some y->u≠r->Al H' u=some y):FkS r vi A nm (pre++[x]) (m++[(nm x,v')]) out vo H':=by
 refine⟨hr,?_,λe he=>?_,λk c=>?_,?_,?_,λe he u D=>?_,?_,w'⟩
 ·rw[Yr,l2y];refine⟨h.kd,by simp,λa F b hb=>?_⟩;simp only[VC,List.map_nil,Qd,List.mem_nil_iff,or_false]at hb;subst hb;exact λe=>hk (e▸F)
 ·rcases Yp.1 he with he|he
  ·have d:=h.val e he;rw[TT,Cr (λq=>hk (by rw[q];exact Us.2 ⟨e,he,rfl⟩))];exact d.kp λs y p g=>kp s y g (λq=>d.dm h.nmd (q▸p))
  ·simp only[Qd,List.mem_nil_iff,or_false]at he;subst he;rw[TT,CZ rfl,h.miss _ hk];exact hv
 ·rw[Yr,Yp,not_or]at c;rw[TT,Cr (λq=>c.2 (by simp[q]))];exact h.miss k c.1
 ·exact h.ids.kp λs y d g=>kp s y g (λq=>h.ids.dm h.nmd (q▸d))
 ·exact h.o.kp λs y d g=>kp s y g (λq=>h.o.dm h.nmd (q▸d))
 ·rcases Yp.1 he with he|he
  ·exact h.d1 e he u D
  ·simp only[Qd,List.mem_nil_iff,or_false]at he;subst he;intro B;have:=h.ids.lt h.wf B;have:=C u D;omega
 ·rw[List.pairwise_append];refine⟨h.d3,by simp,λe he J f u t w=>?_⟩;simp only[Qd,List.mem_nil_iff,or_false]at f;subst f;have:=(h.val e he).lt h.wf t;have:=C u w;omega
def FkS.put(h:FkS r vi A nm pre m out vo H)(hb:pre.length<1000):∃m' H',(∀K:Ru,(Gt Ao 1 Ag 1 [(0,1,S x)] H λaa O=>dR Ab (.mp r) (kN (nm x)) O λN P=>Ci N 0 λab=>Ed Ao 1 Ag Ab ab aa P λac Q=>Ci N 1 λad=>qV (.mp r) ad ac Q K)=K H')/\FkS r vi A nm (pre++[x]) m' out vo H':=by
 have C:∀k,(uV nm pre k).length<1000:=λk=>Nat.lt_of_le_of_lt (l2v _ _) hb;have w1:=AM (x:=.cells false Ao [S x]) h.wf;have g:AZ ((Ax H,.cells false Ao [S x])::H) Ao 1 (.sl 1 (Ax H) 0 1) 1 [S x]:=LC (H:=H) (e:=Ao) (n:=1) (cs:=[S x]) rfl;have X:r<Ax H:=h.wf.lt h.nmd;have d:Al ((Ax H,.cells false Ao [S x])::H) r=some (Jh m):=AK X h.nmd;have ae:Ax H<Ax ((Ax H,Row.cells false Ao [S x])::H):=w1.lt (Av (by simp));by_cases hk:nm x∈m.map (·.1)
 ·obtain⟨j,w,he,hf⟩:=A02 (i:=0) hk;rw[Kk]at hf;have J:=h.val _ (Of w);rw[he]at J;have M:AZ ((Ax H,.cells false Ao [S x])::H) Ao 1 m[j].2 (uV nm pre (nm x)).length (AJ (uV nm pre (nm x))):=J.kp λs y _ c=>AK (h.wf.lt c) c;obtain⟨v',B,k1,k2,k3,t⟩:=apt (ie:=Ag) (i2:=Ab) M (λK=>NQ (K:=K) g) rfl rfl (by decide) rfl rfl (by show(_+1)*16<=_;have:=C (nm x);omega) (by have:=C (nm x);omega);have f:Al B r=some (Jh m):=t.keep w1 r _ d (M.dm d);have a:∀u,A6 v' u->Ax H<=u:=λu Y=>by rw[k3 u Y];omega
  refine⟨m.set j (m[j].1,v'),upd B r (Jh (m.set j (m[j].1,v'))),λK=>?_,h.set w he (Bs (t.wf w1)) (R6 f) ?_ a λu y c hn V=>?_⟩
  ·rw[YZ (z:=S []) (λ_=>rfl) (λ_=>rfl) rfl,A9g d w hf,CI,k1,CH,A45 f w]
  ·rw[EJ,<-Xl];refine AZ.kp k2 λs y D c=>?_;rw[Ah (λq=>by have:=a s D;omega)];exact c
  ·rw[Ah hn];exact t.keep w1 u y (AK (h.wf.lt c) c) V
 ·have Z:Al (upd ((Ax H,.cells false Ao [S x])::H) r (Jh (m++[(nm x,A1)]))) r=some (Jh (m++[(nm x,A1)])):=R6 d;have w2:=Bs (r:=r) (y:=Jh (m++[(nm x,A1)])) w1;have p:AZ (upd ((Ax H,.cells false Ao [S x])::H) r (Jh (m++[(nm x,A1)]))) Ao 1 (.sl 1 (Ax H) 0 1) 1 [S x]:=g.kp λs y D c=>by
   rw[Ah (λq=>by subst q;exact g.dm d D)];exact c
  have R:AZ (upd ((Ax H,.cells false Ao [S x])::H) r (Jh (m++[(nm x,A1)]))) Ao 1 A1 0 []:=.inl ⟨rfl,rfl,rfl⟩;obtain⟨v',B,k1,k2,k3,t⟩:=apt (ie:=Ag) (i2:=Ab) R (λK=>NQ (K:=K) p) rfl rfl (by decide) rfl rfl (by decide) (by decide);have f:Al B r=some (Jh (m++[(nm x,A1)])):=t.keep w2 r _ Z MD;have a:∀u,A6 v' u->Ax H<=u:=λu Y=>by rw[k3 u Y,BV];omega
  have w:m.length<(m++[(nm x,A1)]).length:=by simp
  have F:(m++[(nm x,A1)]).set m.length ((m++[(nm x,A1)])[m.length].1,v')=m++[(nm x,v')]:=by
   rw[List.set_append_right _ _ (Oj _)];simp
  refine⟨m++[(nm x,v')],upd B r (Jh (m++[(nm x,v')])),λK=>?_,h.new hk (Bs (t.wf w2)) (R6 f) ?_ a λu y c hn=>?_⟩
  ·rw[YZ (z:=S []) (λ_=>rfl) (λ_=>rfl) rfl,A9h d hk,CI,k1,CH,A45 f w,F]
  ·refine AZ.kp k2 λs y D c=>?_;rw[Ah (λq=>by have:=a s D;omega)];exact c
  ·rw[Ah hn];refine t.keep w2 u y ?_ MD;rw[Ah hn];exact AK (h.wf.lt c) c
end
end
section
variable{D:Nat}
variable{L n:Nat}
section
variable{gs:dn}{H H' H0:Hp}{K:KV}{x0:Af}{r:Nat}{m:List (NK×AV)}{k:NK}{x y:Sg}{out:List OU}{vi vo v:AV}{A pre:List Sg}{nm:Sg->NK}
def A9k{c:Cd}(a:Jo (gE gs) x=some c){K:K2}:Tt Ae false (gV gs) (SV x) H K=K (.agg c.cs):=by
 rw[dT (f:=JA) (b:=gE gs) (λK=>id rfl),a]
def A08{l:List Sg}:fkG nm pre (x::l)=((uV nm pre (nm x)).map λy=>(y,x))++fkG nm (pre++[x]) l:=rfl
def C1k{t:KV}(hA:∀y∈A,∃c,Jo (gE gs) y=some c/\nmC c=nm y)(hl:A.length<=9)(hL:100<L)(hx:∀vo H m,FkS r vi A nm A m (fkG nm [] A) vo H->(fkG nm [] A=[]->vo=A1)->(fkG nm [] A).length<=90->t vo H=x0):
 ∀(F i:Nat)(m:List (NK×AV))(out:List OU)(vo:AV)(H:Hp)(d1 d2 d3 C J:AV),i<=A.length->A.length-i<F->FkS r vi A nm (A.take i) m out vo H->out++fkG nm (A.take i) (A.drop i)=fkG nm [] A->out.length<=10*i->(out=[]->vo=A1)->
  RH (L+20) (r! L n) K t F (gV gs) (.mp r) vo d1 d2 vi (I (A.length:Int)) (I (i:Int)) d3 C J H=x0:=by
 intro F
 induction F with
 |zero=>intro i m out vo H d1 d2 d3 C J _ h;omega
 |succ F ih=>
  intro i m out vo H d1 d2 d3 C J hi hf h B ab hz;rw[hY];unfold RJ HN Az;by_cases a:i<A.length
  ·rw[Fo (by omega),CA];obtain⟨ad,h1,h2⟩:=h.ids.ia a;rw[h1,h2];obtain⟨c,hc,hn⟩:=hA _ (Of a);have ks:∀{F:Value->Af},It (S A[i]) F=F (SV A[i]):=λ{F}=>id rfl;rw[ks,A9k hc,B2Y,ks,A9k hc,B2X];have eb:∀{F:K2},BZ EL [(0,1,I (nmC c).1),(1,1,I (nmC c).2)] F=F (.agg [I (nmC c).1,I (nmC c).2]):=λ{F}=>id rfl;rw[eb,AP (cs:=[zI,zI]) rfl,Bv (q:=true) (e:=I0) (cs:=[zI,zI]) (vs:=[I (nmC c).1,I (nmC c).2]) (Av (by simp)) rfl rfl rfl];have O:upd ((Ax H,c_ I0 [zI,zI])::H) (Ax H) (c_ I0 [I (nmC c).1,I (nmC c).2])=(Ax H,c_ I0 [I (nmC c).1,I (nmC c).2])::H:=by unfold upd;rw[CZ rfl]
   rw[O,hn];simp only[BJ];have w1:=AM (x:=.cells true I0 [I (nm A[i]).1,I (nm A[i]).2]) h.wf;have j:FkS r vi A nm (A.take i) m out vo ((Ax H,c_ I0 [I (nm A[i]).1,I (nm A[i]).2])::H):=h.kp w1 (λu y g _=>AK (h.wf.lt g) g) (h.o.kp λs y _ g=>AK (h.wf.lt g) g);have d:=Av (H:=H) (x:=.cells true I0 [I (nm A[i]).1,I (nm A[i]).2]) (by simp);rw[AX (cs:=[I (nm A[i]).1,I (nm A[i]).2]) rfl rfl d,B43];obtain⟨v,P,f,ac⟩:=B32 j (K:=_) (nm A[i]);rw[show((nm A[i]).1,(nm A[i]).2)=nm A[i] from rfl,P];have el:∀{F:K2},Bh Ab v F=F (I ((uV nm (A.take i) (nm A[i])).length:Int)):=λ{F}=>by
    rcases f with⟨rfl,h4,_⟩|⟨_,_,rfl,_⟩
    ·rw[h4];exact id rfl
    ·exact id rfl
   rw[el];have aa:(uV nm (A.take i) (nm A[i])).length<=9:=gP (l2v _ _) (by rw[E'];omega);refine C1j (n:=n) (out:=out) w1 f (λu N Q=>f.df j.o (by decide) N Q) (by omega) (λw H' i' p=>?_) (L+20) 0 vo _ (by omega) (by omega) rfl ?_
   ·have h5:FkS r vi A nm (A.take i) m (out++(uV nm (A.take i) (nm A[i])).map λy=>(y,A[i])) w H':=j.kp p.wf p.keep p.sl;have M:=p.keep _ _ d (j.o.dc d (by decide));rw[AX (cs:=[I (nm A[i]).1,I (nm A[i]).2]) rfl rfl M];simp only[B43];obtain⟨m',Y,h6,X⟩:=h5.put (x:=A[i]) (by rw[E'];omega);rw[show((nm A[i]).1,(nm A[i]).2)=nm A[i] from rfl,h6,Dg (by omega)];have V:A.take i++[A[i]]=A.take (i+1):=(tO a).symm;rw[V]at X;refine ih (i+1) m' _ w Y _ _ _ _ _ (by omega) (by omega) X ?_ ?_ p.nil
    ·rw[<-B,tK a,A08,<-V,eU]
    ·rw[EJ,Ub];omega
   ·simp only[List.take_zero,List.map_nil,YV];exact⟨j.o,w1,λu y g _=>g,λu N=>.inl N,Oj _,hz⟩
  ·rw[XA2 (by omega),Bm];have R:A.take i=A:=l1z (by omega);have Z:A.drop i=[]:=List.drop_eq_nil_of_le (by omega);rw[R,Z]at B;rw[R]at h;simp only[fkG,YV]at B;subst B;exact hx vo H m h hz (by omega)
def rQ(l:List OU):AV:=if l=[] then A1 else .list l.length (l.flatMap Yn)
def B7g(l:List OU):pl 6 (rQ l)=true:=by
 unfold rQ;split
 ·rfl
 ·show(l.flatMap Yn).all (pl 5)=true;rw[G8];intro y c;obtain⟨p,_,a⟩:=l32.1 c;simp only[Yn,Qd,List.mem_nil_iff,or_false]at a;rcases a with rfl|rfl<;>rfl
def B7Q{b:Bool}:∀(l:List OU),Py b (D+1) (l.flatMap Yn) (l.flatMap Yn) H false:=by
 intro l
 induction l with
 |nil=>exact AG
 |cons p l ih=>exact Aq (q:=false) CG (Aq (q:=false) CG ih)
def C16{b:Bool}{l:List OU}(h:AZ H DE 2 v l.length (l.flatMap Yn))(c:l=[]->v=A1):∃q,Fx b (D+2) v (rQ l) H q:=by
 unfold rQ;by_cases a:l=[]
 ·rw[CZ a,c a];exact⟨false,CG⟩
 ·rw[Cr a];rcases h with⟨_,h,_⟩|⟨r,q,rfl,h2,d⟩
  ·exact absurd (lX h) a
  ·exact⟨true,WS h2 d (B7Q l)⟩
def B0H(j:AZ H DE 2 v out.length (out.flatMap Yn))(u:out=[]->v=A1)(hb:out.length<1000000)(p:∀H',AZ H' DE 2 v (IM out).length ((IM out).flatMap Yn)->K (.tup []) H'=x0):
 (r! L (n+1)).call CC [v,.fn (.func Df) [] []] H K=x0:=by
 have s:(r! L (n+1)).call CC [v,.fn (.func Df) [] []] H K=fG Df [v,.fn (.func Df) [] []] H K (jO (E (L+20)) (nT (L+20)) (r! L n) CC [v,.fn (.func Df) [] []] H K):=rfl;rw[s];by_cases a:out=[]
 ·subst a;obtain rfl:=u rfl;exact p H j
 have e:=(MG out).length_eq;rcases j with⟨_,h,_⟩|⟨r,q,rfl,f,hc⟩
 ·exact absurd (lX h) a
 ·have i:0<out.length:=List.length_pos_iff.2 a;have c:((IM out).flatMap Yn).length=(out.flatMap Yn).length:=by rw[xQ Yn (λ_=>rfl),xQ Yn (λ_=>rfl),e]
  have t:∀alt K,fG Df [.sl 2 r 0 out.length,.fn (.func Df) [] []] H K alt=DN 0 ((IM out).flatMap Yn) (out.flatMap Yn) λd=>JI H r (.cells q DE d) λH'=>K (.tup []) H':=λalt K=>by
   unfold fG;simp only[f,tJ];rw[l1z (by omega),B7i];have g:(Nat.beq Df Df&&(Nat.beq out.length out.length&&(Nat.blt out.length 4611686018427387904&&Nat.blt 0 out.length)))=true:=by
    rw[ZX,ZX];simp;omega
   simp only[g]
  rw[t,IP _ _ _ _ (by omega),QJ _ _ c,C5];exact p _ (.inr ⟨r,q,by rw[e],A5 f,by rw[c,e];exact hc⟩)
def A3h{a:AV}(f:GOk gs)(O:40000<L)(p:LA gs a):CS (r! L (n+80)) G6 [a] (rQ (RL gs)):=by
 intro K g;rw[VA];unfold Pb Az;have i:Py true depth [a] [a] [] false:=by rcases p with rfl|⟨_,rfl⟩<;>exact λK=>by kernel_rfl
 have of:∀{K:K2},Aj (r! L (n+79)) Eb [a] [] K=K (.tup [gV gs,Bo true]):=λ{K}=>En (λK g=>wX (n:=n+15) f (by omega) p K g) i;have B:Ze 6 (rQ (RL gs)) (rQ (RL gs))=true:=Uq 6 _ (B7g _);have N:=f.len;rw[of,CI,CH];have q:∀{F:KV},JK Ab [] F=F (.mp 0) [(0,Jh [])]:=λ{F}=>by kernel_rfl
 rw[q];simp only[BJ];have w0:Wf [(0,Jh [])]:=AM (x:=Jh []) E1;rw[show n+79=n+73+6 from rfl];refine J? (n:=n+73) B (by omega) (by omega) w0 λvi H hv M=>?_;have d:(FF (gs.map Cd.id)).length<=9:=by rw[(BF _).length_eq,Ub];omega
 have s:∀{F:K2},Bh Ab vi F=F (I ((FF (gs.map Cd.id)).length:Int)):=λ{F}=>by
  rcases hv.sl with⟨rfl,t,_⟩|⟨_,_,rfl,_⟩
  ·rw[t];exact id rfl
  ·exact id rfl
 rw[s];have u:FkS 0 vi (FF (gs.map Cd.id)) (nmX gs) ((FF (gs.map Cd.id)).take 0) [] [] A1 H:=
  ⟨hv.keep 0 _ rfl,List.nodup_nil,λe he=>absurd he (by simp),λk _=>rfl,hv.sl,.inl ⟨rfl,rfl,rfl⟩,λe he=>absurd he (by simp),List.Pairwise.nil,hv.wf⟩
 refine C1k (n:=n+79) (A:=FF (gs.map Cd.id)) (nm:=nmX gs) (λy C=>?_) d (by omega) (λvo H' m h hz w=>?_) (L+20) 0 [] [] A1 H _ _ _ _ _ (by omega) (by omega) u rfl (by simp) (λ_=>rfl)
 ·obtain⟨c,hc,rfl⟩:=Us.1 ((BF _).mem_iff.1 C);exact⟨c,IQ f.ids hc,(B2l f.ids hc).symm⟩
 ·rw[show n+79=n+78+1 from rfl];refine B0H (n:=n+78) h.o hz (by omega) λJ h2=>?_;refine g _ _ λb=>?_;have j:RL gs=[]->vo=A1:=λe=>hz (lX (by rw[<-(MG _).length_eq];exact congrArg List.length e));exact C16 (D:=depth-2) h2 j
end
end
section
variable{c:Cd}
variable{L n:Nat}
section
variable{H H0 H':Hp}{v a:AV}{gs A:dn}{K:KV}
def C19(h:AZ H Ad 68 v A.length (A.flatMap Cd.cs)):∃d H',(∀K:KV,A0u v H K=K d H')/\LA A d/\Lat H H' (A6 v):=by
 rcases h with⟨rfl,h1,_⟩|⟨r,q,rfl,h2,i⟩
 ·have f:=lX h1;exact⟨A1,H,λK=>r_ rfl,.inr ⟨f,rfl⟩,.refl _ _⟩
 ·refine⟨.list A.length (A.flatMap Cd.cs),upd H r .gone,λK=>?_,.inl rfl,.upd _ _ _ ⟨_,_,_,rfl⟩⟩;have e:A0u (.sl 68 r 0 A.length) H K=IN H r λx=>Ku x λ_ cs=>FI (Nat.mul A.length 68) (D0 0 cs) λc=>ck (c.all (mI 3)) (JI H r .gone λH'=>K (.list A.length c) H'):=rfl;rw[e,Bq h2];show FI (A.length*68) (D0 0 (A.flatMap Cd.cs)) _=_;rw[C9,tJ,MH _ _ _ (by omega),l1z (by omega)];have hc:(A.flatMap Cd.cs).all (mI 3)=true:=by
   rw[G8];intro x g;obtain⟨c,_,hc⟩:=l32.1 g;exact G8.1 (C1x (p:=mI 3) c (λ_=>rfl) (λ_=>rfl) rfl (λ_ _ _ _=>rfl)) x hc
  rw[hc,C5];rfl
def A4H(ae:c.Ok)(af:c.ps.length<100):CT (r! L (n+2)) RR [.agg c.cs] (.agg c.cs):=by
 intro K hK;rw[gK];unfold Rv E0;obtain⟨pT,pI,pN⟩:=B8y ae;have e0:c.cs=c.csP (Dp c.ps):=(A9z c).symm;have one:∀P,AV.one P=true->(c.csP P).all AV.one=true:=λP h=>XJ c h;have V:AV.one (Dp c.ps)=true:=by cases c.ps<;>rfl
 have l0:∀{H:Hp},Al H 0=some (c_ Ad (c.csP (Dp c.ps)))->True:=λ_=>trivial;have same:∀{H:Hp}{P:AV}{p:Nat}{i:TI}{v:AV}{K:Ru},Al H 0=some (c_ Ad (c.csP P))->p<68->i.size=1->B2 v=[v]/\AV.one v=true->(c.csP P).set p v=c.csP P->Dr i (.ptr 0 p 0) v H K=K (upd H 0 (c_ Ad (c.csP P))):=λ{H P p i v K}hl hp hi hv hs=>by
  rw[Em (cs:=c.csP P) hl (by rw[Ln];exact hp) hi hv.1 hv.2,hs]
 have ld:∀{H:Hp}{P:AV}{p:Nat}{i:TI}{v:AV}{K:K2},i.d.isAgg=false->Al H 0=some (c_ Ad (c.csP P))->p<68->(c.csP P).getD p .dk=v->A7 i (.ptr 0 p 0) H K=K v:=λ{H P p i v K}hi hl hp hv=>by
  rw[AH (p:=p) hi hl (by rw[Ln];exact hp),hv]
 have eb:∀{K:KV},Hd Ad (.agg (c.csP (Dp c.ps))) [] K=K (.ptr 0 0 0) [(0,c_ Ad (c.csP (Dp c.ps)))]:=λ{K}=>Fb (one _ V);have ea:∀{K:KV},Ba Ad Ae [(0,c_ Ad (c.csP (Dp c.ps)))] K=K (.ptr 1 0 0) [(1,c_ Ad Bi),(0,c_ Ad (c.csP (Dp c.ps)))]:=λ{K}=>AP (cs:=Bi) rfl;rw[e0,eb,ea];have h0:Al [(1,c_ Ad Bi),(0,c_ Ad (c.csP (Dp c.ps)))] 0=some (c_ Ad (c.csP (Dp c.ps))):=rfl;have h1:Al [(1,c_ Ad Bi),(0,c_ Ad (c.csP (Dp c.ps)))] 1=some (c_ Ad Bi):=rfl;have w0:Wf [(1,c_ Ad Bi),(0,c_ Ad (c.csP (Dp c.ps)))]:=AM (AM E1);show Cl 26 (.ptr 0 0 0) _=_;rw[fA,fA];show A7 Ay (.ptr 0 28 0) [(1,c_ Ad Bi),(0,c_ Ad (c.csP (Dp c.ps)))] _=_;generalize [(1,c_ Ad Bi),(0,c_ Ad (c.csP (Dp c.ps)))]=H at h0 h1 w0;rw[ld rfl h0 (by decide) (XK c _).1,AE (C39 (n:=n) pT) (Aq pT.fx AG),fA,fA];show Dr Ay (.ptr 0 28 0) c.fT H _=_;rw[same h0 (by decide) rfl pT.cell (XI c _).1];have X:=A5 (q:=true) (e:=Ad) (cs:=c.csP (Dp c.ps)) h0;have a1:Al (upd H 0 (c_ Ad (c.csP (Dp c.ps)))) 1=some (c_ Ad Bi):=by rw[Ah (by decide)];exact h1
 have aw:Wf (upd H 0 (c_ Ad (c.csP (Dp c.ps)))):=Bs w0;generalize upd H 0 (c_ Ad (c.csP (Dp c.ps)))=H1 at X a1 aw;show Cl 31 (.ptr 0 0 0) _=_;rw[fA];show A7 Ab (.ptr 0 31 0) H1 _=_;rw[ld rfl X (by decide) (XK c _).2.1];have main:∀v f,MT f v c.ps->(c.ps=[]->v=A1)->Al f 0=some (c_ Ad (c.csP (Dp c.ps)))->Al f 1=some (c_ Ad Bi)->(∀u,A6 v u->1<u)->Wf f->
  (Cl 31 (.ptr 0 0 0) λah=>Dr Ab ah v f λm=>Cl 32 (.ptr 0 0 0) λai=>Cl 1 ai λaj=>A7 Ai aj m λak=>Aj (r! L (n+1)) D8 [ak] m λam=>
   Cl 32 (.ptr 0 0 0) λao=>Cl 1 ao λap=>Dr Ai ap am m λr=>Cl 32 (.ptr 0 0 0) λaq=>Cl 2 aq λar=>A7 Ar ar r λax=>Aj (r! L (n+1)) D9 [ax] r λay=>
   Cl 32 (.ptr 0 0 0) λaz=>Cl 2 az λa3=>Dr Ar a3 ay r λt=>Cl 65 (.ptr 0 0 0) λa4=>Cl 1 a4 λa5=>A7 Ab a5 t λa6=>(r! L (n+1)).call B4 [a6] t λa7 aa=>
   Cl 65 (.ptr 0 0 0) λa8=>Cl 1 a8 λa9=>Dr Ab a9 a7 aa λw=>Cl 65 (.ptr 0 0 0) λba=>Cl 2 ba λbc=>A7 Ab bc w λbd=>(r! L (n+1)).call B4 [bd] w λbe ab=>
   Cl 65 (.ptr 0 0 0) λbf=>Cl 2 bf λbg=>Dr Ab bg be ab λx=>A7 Ae (.ptr 0 0 0) x λbh=>Dr Ae (.ptr 1 0 0) bh x λC=>A7 Ae (.ptr 1 0 0) C λbj=>K bj C)=some (.agg (c.csP (Dp c.ps)),[]):=λv f hv ag b0 b1 hr bw=>by
  rw[fA];show Dr Ab (.ptr 0 31 0) v f _=_;rw[Em (cs:=c.csP (Dp c.ps)) b0 (by rw[Ln];decide) rfl hv.cell.1 hv.cell.2,(XI c _).2.1 v];have F:MT (upd f 0 (c_ Ad (c.csP v))) v c.ps:=hv.kp λu y j R=>by rw[Ah (by have:=hr u j;omega)];exact R
  have Y:=A5 (q:=true) (e:=Ad) (cs:=c.csP v) b0;have c1:Al (upd f 0 (c_ Ad (c.csP v))) 1=some (c_ Ad Bi):=by rw[Ah (by decide)];exact b1
  have cw:Wf (upd f 0 (c_ Ad (c.csP v))):=Bs bw;generalize upd f 0 (c_ Ad (c.csP v))=H3 at F Y c1 cw;have k:∀{H:Hp},Al H 0=some (c_ Ad (c.csP v))->Al H 1=some (c_ Ad Bi)->MT H v c.ps->Al (upd H 0 (c_ Ad (c.csP v))) 0=some (c_ Ad (c.csP v))/\Al (upd H 0 (c_ Ad (c.csP v))) 1=some (c_ Ad Bi)/\MT (upd H 0 (c_ Ad (c.csP v))) v c.ps:=λ{H}s g1 g2=>
   ⟨A5 s,by rw[Ah (by decide)];exact g1,g2.kp λu y j R=>by rw[Ah (by have:=hr u j;omega)];exact R⟩
  rw[fA,fA];show A7 Ai (.ptr 0 33 0) H3 _=_;rw[ld rfl Y (by decide) (XK c _).2.2.1,AE (C38 (n:=n) pI) (Aq pI.fx AG),fA,fA];show Dr Ai (.ptr 0 33 0) c.fI H3 _=_;rw[same Y (by decide) rfl pI.cell (XI c _).2.2.1];obtain⟨Z,d1,J⟩:=k Y c1 F;generalize upd H3 0 (c_ Ad (c.csP v))=H4 at Z d1 J;rw[fA,fA];show A7 Ar (.ptr 0 34 0) H4 _=_;rw[ld rfl Z (by decide) (XK c _).2.2.2.1,AE (C3a (n:=n) pN) (Aq pN.fx AG),fA,fA];show Dr Ar (.ptr 0 34 0) c.fN H4 _=_;rw[same Z (by decide) rfl pN.cell (XI c _).2.2.2.1];obtain⟨f0,f1,M⟩:=k Z d1 J;generalize upd H4 0 (c_ Ad (c.csP v))=H5 at f0 f1 M;rw[fA,fA];show A7 Ab (.ptr 0 66 0) H5 _=_;rw[ld rfl f0 (by decide) (XK c _).2.2.2.2.1,iR,fA,fA];show Dr Ab (.ptr 0 66 0) A1 H5 _=_;rw[same f0 (by decide) rfl ⟨rfl,rfl⟩ (XI c _).2.2.2.2.1];obtain⟨s,g1,N⟩:=k f0 f1 M;generalize upd H5 0 (c_ Ad (c.csP v))=H6 at s g1 N;rw[fA,fA];show A7 Ab (.ptr 0 67 0) H6 _=_;rw[ld rfl s (by decide) (XK c _).2.2.2.2.2,iR,fA,fA];show Dr Ab (.ptr 0 67 0) A1 H6 _=_;rw[same s (by decide) rfl ⟨rfl,rfl⟩ (XI c _).2.2.2.2.2];obtain⟨i0,i1,O⟩:=k s g1 N;generalize upd H6 0 (c_ Ad (c.csP v))=H7 at i0 i1 O;rw[AX rfl (by exact(Ln c).symm) i0,Bv (cs:=Bi) (vs:=c.csP v) i1 (by rw[Ln];rfl) rfl (one v hv.cell.2)];have j1:=A5 (q:=true) (e:=Ad) (cs:=c.csP v) i1;have Q:MT (upd H7 1 (c_ Ad (c.csP v))) v c.ps:=O.kp λu y j R=>by rw[Ah (by have:=hr u j;omega)];exact R
  rw[AX rfl (by exact(Ln c).symm) j1];rw[<-e0];refine hK _ _ ?_;generalize upd H7 1 (c_ Ad (c.csP v))=H8 at Q;obtain⟨q,hq⟩:=Q.fxc ag (b:=true) (D:=depth-2);obtain⟨A,B,e,ac,ad⟩:=vY c;rw[e0,e,e];exact⟨_,PR (D:=depth-1) (yQ (mC A ac) (Aq hq (mC B ad)))⟩
 by_cases g:c.ps=[]
 ·have en:Dp c.ps=A1:=by rw[g];rfl
  have:=main A1 H1 (.inl ⟨rfl,g⟩) (λ_=>rfl) X a1 (λu j=>absurd j MD) aw;rw[en];rw[en]at this;rw[iR];exact this
 ·refine A3j (n:=n) aw af λv f hv hk hr hw=>main v f hv (λh=>absurd h g) (hk _ _ X) (hk _ _ a1) (λu j=>?_) hw;have b1:=hr u j;have b2:=aw.lt a1;omega
def A6L(j:GOk gs)(t:40000<L)(k:LA gs a)(hc:c∈gs):CT (r! L (n+65)) Fg [a,S c.id] (.tup [.agg c.cs,Bo true]):=by
 intro K h;rw[Rw];unfold Ny NW;have d:=j.ok c hc;rw[AP (cs:=Bi) rfl];have w1:=AM (x:=.cells true Ad Bi) E1;have b1:Al ((Ax [],c_ Ad Bi)::([]:Hp)) (Ax [])=some (c_ Ad Bi):=Av (by simp);generalize ((Ax [],c_ Ad Bi)::([]:Hp))=g at w1 b1;generalize Ax ([]:Hp)=r1 at b1;have of:∀{K:K2},Aj (r! L (n+64)) Eb [a] g K=K (.tup [gV gs,Bo true]):=λ{K}=>En (λK h=>wX j t k K h) (Aq (k.fx g) AG);have s:∀(F:Value->Af),It (S c.id) F=F (SV c.id):=λF=>r_ rfl;rw[of,CI,CH,s,RS (f:=JA) (b:=gE gs) (λK=>r_ rfl),IQ j.ids hc];simp only[];rw[CI,CH,AP (cs:=Bi) rfl];show(Dr Ae (.ptr (Ax g) 0 0) (.agg c.cs) _ _)=_;rw[Bv (cs:=Bi) (vs:=c.cs) (Av (by simp)) BC rfl Ic];obtain⟨m,r,i,w,u⟩:=DY (e:=Ad) (zs:=Bi) (vs:=c.cs) w1 BC;rw[<-r,AX rfl BC.symm i];have p:∀{F:K2},Aj (r! L (n+64)) RR [.agg c.cs] m F=F (.agg c.cs):=λ{F}=>En (A4H (n:=n+62) d (by have:=B3s d;omega)) (Aq (T3 (D:=9)) AG);have b2:=(u _ _ b1).1;rw[p,Bv (cs:=Bi) (vs:=c.cs) b2 BC rfl Ic,AX rfl BC.symm (A5 b2)];exact h _ _ ⟨_,Vq (Aq (T3 (D:=8)) (Aq (q:=false) CG AG))⟩
end
end
section
variable{s:Ha}{N:Nat}
variable{L n:Nat}
abbrev clR(x y z:Nat):AV:=.fn (.func Cx) [] [.ptr x 0 0,.ptr y 0 0,.ptr z 0 0]
abbrev bA(v:Bool):AV:=Bo v
structure Rl(gs:dn)(y m x z:Nat)(b:List (Ha×Bool))(H:Hp):Prop where
 g:Al H y=some (c_ Bx [gV gs])
 mm:Al H m=some (.map false (Fc bA b) none)
 c:Al H x=some (c_ Kg [.mp m])
 f:Al H z=some (c_ Jt [clR x y z])
 wf:Wf H
 ne:m≠y/\m≠x/\m≠z
section
variable{gs:dn}{y m x z:Nat}{b:List (Ha×Bool)}{H H':Hp}{K:KV}
def Rl.up(h:Rl gs y m x z b H)(a:List (Ha×Bool)):Rl gs y m x z a (upd H m (.map false (Fc bA a) none)):=
 ⟨by rw[Ah h.ne.1.symm];exact h.g,(Dk h.mm).trans rfl,by rw[Ah h.ne.2.1.symm];exact h.c,by rw[Ah h.ne.2.2.symm];exact h.f,Bs h.wf,h.ne⟩
def Rl.kp(h:Rl gs y m x z b H)(w:Wf H')(k:∀s r,Al H s=some r->Al H' s=some r/\s≠Ax H):Rl gs y m x z b H':=
 ⟨(k _ _ h.g).1,(k _ _ h.mm).1,(k _ _ h.c).1,(k _ _ h.f).1,w,h.ne⟩
def B3E:C7 (E (L+20)) (rt (L+20) N) (clR x y z) [S s] H K=(rt (L+20) N).call Cx [S s,.ptr x 0 0,.ptr y 0 0,.ptr z 0 0] H K:=by
 show RM [S s] [.ptr x 0 0,.ptr y 0 0,.ptr z 0 0] (λa=>RM [] a λall=>A0f ((E (L+20)).ne Cx) all H K (@Bool.rec (λ_=>Af) (zpm (E (L+20)) Cx (rt (L+20) N) all H λv=>K v H) ((rt (L+20) N).call Cx all H K) ((E (L+20)).imp Cx)))=_;rw[I6,I6,show(E (L+20)).ne Cx=false from rfl,show(E (L+20)).imp Cx=true from rfl];rfl
def RlC(L N n:Nat)(gs:dn)(y m x z:Nat):Prop:=∀(s:Ha)(b a:List (Ha×Bool))(v:Bool)(H:Hp),Rl gs y m x z b H->dfs (gr gs) N s b=some (v,a)->
 ∃H',Rl gs y m x z a H'/\∀K:KV,(r! L (n+N)).call Cx [S s,.ptr x 0 0,.ptr y 0 0,.ptr z 0 0] H K=K (Bo v) H'
def B9V{a0 a1:AV}{ps:List Ha}{v:Bool}{r:List (Ha×Bool)}(hb:ps.length<100)(hc:RlC L N n gs y m x z):
 ∀(f i:Nat)(a:Bool)(b:List (Ha×Bool))(H:Hp),i<=ps.length->ps.length-i<f->Rl gs y m x z b H->A0B (dfs (gr gs) N) (ps.drop i) a b=some (v,r)->
 ∃H',Rl gs y m x z r H'/\∀(K:KV)(c:AV->AV->KV),EK (L+20) (r! L (n+N)) K c f a0 a1 (.ptr z 0 0) (Bo a) (Dp ps) (I ps.length) (I i) H=c a0 a1 (Bo v) H':=by
 intro f
 induction f with
 |zero=>intro i a b H _ h;omega
 |succ f ih=>
  intro i a b H B A hr d;by_cases h:i<ps.length
  ·have e:Dp ps=Ls ps:=Wv (by omega);rw[tK h]at d;unfold A0B at d;cases a with
   |false=>
    obtain⟨j,g,h2⟩:=ih (i+1) false b H (by omega) (by omega) hr d;refine⟨j,g,λK c=>?_⟩;rw[Hi];unfold Ea HN BK Az Fk;rw[Fo (by omega),CA,e,OS h,Hy,<-e];simp only[Z_,Ck,ZG];rw[Dg (by omega)];exact h2 K c
   |true=>
    simp only[if_true]at d;cases hq:dfs (gr gs) N ps[i] b with
    |none=>rw[hq]at d;cases d
    |some p=>
     obtain⟨w,b2⟩:=p;rw[hq]at d;obtain⟨j,g,k⟩:=hc ps[i] b b2 w H hr hq;have lf:∀{K},A7 Aa (.ptr z 0 0) H K=K (clR x y z):=λ{K}=>AH (p:=0) rfl hr.f (show 0<1 by decide);obtain⟨t,q,u⟩:=ih (i+1) w b2 j (by omega) (by omega) g d;refine⟨t,q,λK c=>?_⟩;rw[Hi];unfold Ea HN BK Az Fk;rw[Fo (by omega),CA,e,OS h,Hy,<-e];simp only[gT,Ck,lf,B3E,k,Xu];rw[Dg (by omega)];exact u K c
  ·have:i=ps.length:=by omega
   subst this;rw[List.drop_length]at d;cases d
   refine⟨H,hr,λK c=>?_⟩;rw[Hi];unfold Ea HN BK Az Fk;rw[XA2 (by omega),Bm]
def B1J(hL:100<L)(O:∀c∈gs,c.ps.length<100):∀N,RlC L N n gs y m x z:=by
 intro N
 induction N with
 |zero=>intro s b b' v H _ h;cases h
 |succ N Z=>
  intro s b b' v H hr a;have lc:∀{K},A7 CM (.ptr x 0 0) H K=K (.mp m):=λ{K}=>AH (p:=0) rfl hr.c (show 0<1 by decide);have r:∀(F:Value->Af),It (S s) F=F (SV s):=λF=>id rfl;unfold dfs at a;cases J:Jo b s with
  |some w=>
   rw[J]at a;cases a
   refine⟨H,hr,λK=>?_⟩;rw[<-Yq,J0];unfold GK E0 Sm Vo BK JD Az MS Fk;rw[lc,r,RS (f:=bA) (b:=b) (λK=>Qt hr.mm),J];simp only[];rw[CI,CH,CA]
  |none=>
   rw[J]at a;simp only[]at a;have d:=hr.up (F1 b s false);have B:∀{F:Ru},Oh (.mp m) (SV s) (.v (.bool false)) H F=F (upd H m (.map false (Fc bA (F1 b s false)) none)):=λ{F}=>SF (f:=bA) (v:=false) hr.mm;generalize upd H m (.map false (Fc bA (F1 b s false)) none)=Q at d B;have lg:∀{K},A7 AC (.ptr y 0 0) Q K=K (gV gs):=λ{K}=>AH (p:=0) rfl d.g (show 0<1 by decide);have R:∀{s j:Nat}{K:K2},Cl j (.ptr s 0 0) K=K (.ptr s j 0):=λ{s j K}=>by rw[fA,Kk]
   rw[yT]at a;cases M:Jo (gE gs) s with
   |none=>
    rw[M]at a;cases a
    obtain⟨u,X,t,w2,k2⟩:=DY (e:=Ad) (zs:=Bi) (vs:=Bi) d.wf rfl;have q:=d.kp w2 k2;refine⟨_,q.up _,λK=>?_⟩;rw[<-Yq,J0];unfold GK E0 Sm Vo BK JD Az MS Fk;rw[lc,r,RS (f:=bA) (b:=b) (λK=>Qt hr.mm),J];simp only[];rw[CI,CH,Bm,lc,r,B,lg,r,RS (f:=JA) (b:=gE gs) (λK=>id rfl),M];simp only[];rw[CI,CH,AP (cs:=Bi) rfl]
    try rw[show(Ae.zero:AV)=.agg Bi from rfl]
    erw[Bv (cs:=Bi) (vs:=Bi) (Av (by simp)) rfl rfl rfl]
    rw[<-X];have lp:∀{K},A7 Ab (.ptr (Ax Q) 31 0) u K=K A1:=λ{K}=>AH (p:=31) rfl t (show 31<68 by decide);have ln:∀{K:K2},Bh Ab A1 K=K (I 0):=id rfl;simp only[Z_,gU,Ck,ZG,BJ,R,lp,ln];have e5:∀(k:AV->AV->KV),EK (L+20) (r! L (n+N)) K k (L+20)=Ea (L+20) (r! L (n+N)) K k (EK (L+20) (r! L (n+N)) K k (L+19)):=λk=>Hi _ _ _ _ _;rw[e5];unfold Ea HN BK Az Fk;have aa:∀{K},A7 CM (.ptr x 0 0) u K=K (.mp m):=λ{K}=>AH (p:=0) rfl q.c (show 0<1 by decide);rw[XA2 (by omega),Bm];show A7 CM (.ptr x 0 0) u _=_;rw[aa,r,SF (f:=bA) (v:=false) q.mm]
   |some c=>
    rw[M]at a;obtain⟨D,ag⟩:=A8K M;simp only[rT]at a;obtain⟨u,X,t,w2,k2⟩:=DY (e:=Ad) (zs:=Bi) (vs:=c.cs) d.wf BC;have q:=d.kp w2 k2;cases hq:A0B (dfs (gr gs) N) (cE c).ps ((cE c).real|| !(cE c).ps.isEmpty) (F1 b s false) with
    |none=>rw[hq]at a;cases a
    |some p=>
     obtain⟨w,b2⟩:=p;rw[hq]at a;cases a
     obtain⟨H3,A,h3⟩:=B9V (L:=L) (n:=n) (N:=N) (a0:=S s) (a1:=.ptr x 0 0) (ps:=c.ps) (O c D) Z (L+20) 0 _ _ u (by omega) (by have:=O c D;omega) q (by rw[tJ];exact hq);refine⟨_,A.up _,λK=>?_⟩;rw[<-Yq,J0];unfold GK E0 Sm Vo BK JD Az MS Fk;rw[lc,r,RS (f:=bA) (b:=b) (λK=>Qt hr.mm),J];simp only[];rw[CI,CH,Bm,lc,r,B,lg,r,RS (f:=JA) (b:=gE gs) (λK=>id rfl),M];simp only[];rw[CI,CH,AP (cs:=Bi) rfl,Bv (cs:=Bi) (vs:=c.cs) (Av (by simp)) BC rfl Ic,<-X];have lp:∀{K},A7 Ab (.ptr (Ax Q) 31 0) u K=K (Dp c.ps):=λ{K}=>A9J t;have lk:∀{K},A7 Ac (.ptr (Ax Q) 0 0) u K=K (I c.kd):=λ{K}=>C1A t;have e1:∀{K},Ap Ac .eql (I c.kd) (.v (.int .i64 1)) K=K (Bo (decide (c.kd=1))):=λ{K}=>by rw[Dn]
     have g0:∀{K},Ap Ac .gtr (I (c.ps.length:Int)) (.v (.int .i64 0)) K=K (Bo (!c.ps.isEmpty)):=λ{K}=>by
      rw[DB];cases hp:c.ps<;>simp
     have ab:∀{K},A7 CM (.ptr x 0 0) H3 K=K (.mp m):=λ{K}=>AH (p:=0) rfl A.c (show 0<1 by decide);simp only[gT,Ck,R,lk,e1];have fin:∀i:Bool,((cE c).real|| !(cE c).ps.isEmpty)=i->(EK (L+20) (r! L (n+N)) K (λae af P C=>A7 CM af C λad=>It ae λac=>Oh ad ac P C λV=>K P V) (L+20) (S s) (.ptr x 0 0) (.ptr z 0 0) (Bo i) (Dp c.ps) (I c.ps.length) (I ((0:Nat):Int)) u)=K (Bo v) (upd H3 m (.map false (Fc bA (F1 b2 s v)) none)):=λi Y=>by
      rw[<-Y,h3];rw[ab,r,SF (f:=bA) (v:=v) A.mm]
     by_cases hk:c.kd=1
     ·simp only[hk,decide_true,gFT,Ck,Xu,BJ,R,lp,RU];exact fin true (by simp[cE,hk])
     ·simp only[hk,decide_false,gT,Ck,ZG,Xu,BJ,R,lp,RU,g0];exact fin _ (by simp[cE,hk])
def Y5{a:AV}(q:GOk gs)(t:40000<L)(u:∀c∈gs,c.ps.length<100)(j:LA gs a):CS (r! L (n+80)) D4 [a,S s] (Bo (rz (gr gs) gs.length s)):=by
 intro K f;rw[YN];unfold OB;have i:Py true depth [a] [a] [] false:=by rcases j with rfl|⟨_,rfl⟩<;>exact λK=>by kernel_rfl
 have of:∀{K:K2},Aj (r! L (n+79)) Eb [a] [] K=K (.tup [gV gs,Bo true]):=λ{K}=>En (λK f=>wX (n:=n+15) q t j K f) i;rw[of,CI,CH];have hr:Rl gs 0 1 2 3 [] [(3,c_ Jt [clR 2 0 3]),(2,c_ Kg [.mp 1]),(1,.map false [] none),(0,c_ Bx [gV gs])]:=
  ⟨rfl,rfl,rfl,rfl,λk hk=>by simp at hk;show k<4;omega,by decide⟩
 have go:C7 (E (L+20)) (r! L (n+79)) (clR 2 0 3) [S s] [(3,c_ Jt [clR 2 0 3]),(2,c_ Kg [.mp 1]),(1,.map false [] none),(0,c_ Bx [gV gs])] K=some (Bo (rz (gr gs) gs.length s),[]):=by
  rw[B3E];have d:(gr gs).length=gs.length:=by simp[gr]
  obtain⟨r,p⟩:=B3m (g:=gr gs) s;rw[d]at p;obtain⟨H',_,h⟩:=B1J (L:=L) (n:=n+77-gs.length) (by omega) u (gs.length+2) s [] r _ _ hr p;have e:n+79=n+77-gs.length+(gs.length+2):=by have:=q.len;omega
  rw[e,h];exact f _ _ (λb=>⟨false,λK=>by kernel_rfl⟩)
 exact go
end
end
section
variable{L n:Nat}
def lA:Ha:=[190,37,193,108,62,69,192,54,146,30,179,35,185,160,42,118,74,72,34,96,70,26,154,115,110,60,175,172,120,42,152,121]
def lB:Ha:=[63,129,197,209,192,171,238,78,64,123,139,56,179,57,155,251,126,184,172,103,57,87,222,153,225,163,5,204,149,119,153,179]
def lC:Ha:=[71,37,141,151,10,1,163,27,132,95,7,9,41,219,210,4,28,226,237,216,22,83,151,14,245,69,75,76,21,75,82,216]
def lM:Ha:=[138,237,11,190,196,80,244,57,90,159,226,217,140,117,21,86,222,147,187,253,67,69,36,87,52,61,73,4,157,145,48,204]
def lD:Ha:=[43,112,24,193,160,158,31,110,143,43,225,193,162,105,217,23,179,133,159,236,252,133,93,18,158,85,197,253,46,253,8,36]
def lE:Ha:=[11,203,203,231,166,154,207,130,208,249,166,236,80,133,250,187,224,115,94,57,103,34,211,136,99,121,167,117,21,244,36,120]
def K4:Cd:=.re ⟨⟨1,1,1,0,0⟩, -80,0,[(1, -8),(2, -8),(3, -8),(4, -8),(5, -8)]⟩ 0
def Xo:Cd:=.re ⟨⟨1,2,1,0,0⟩, -80,0,[(1, -8),(2, -8),(3, -8),(4, -8),(5, -8)]⟩ 0
def N?:Cd:=.re ⟨⟨1,2,1,0,9⟩, -80,0,[(1, -8),(2, -8),(3, -8),(4, -8),(5, -8)]⟩ 0
def Z8:Cd:=.co ⟨⟨1,3,1,0,0⟩, -80,0,[(1, -5),(2, -5),(3, -5),(4, -8),(5, -8)]⟩ ⟨2,[3,3],.no⟩ [lA,lB] none
def B_:Cd:=.co ⟨⟨1,4,1,0,0⟩, -80,0,[(1, -5),(2, -5),(3, -5),(4, -8),(5, -8)]⟩ ⟨2,[3,3],.no⟩ [lC,lM] none
def A77:cdM 0 0 0 0 0 0 0 0 0 0 0 0 none []=K4:=by kernel_rfl
def A76:cdM 0 0 1 0 0 0 0 0 0 0 0 0 none []=Xo:=by kernel_rfl
def A75:cdM 1 0 11 0 0 0 3 3 3 0 0 0 none [lA,lB]=Z8:=by kernel_rfl
def A74:cdM 1 0 12 0 0 0 3 3 3 0 0 0 none [lC,lM]=B_:=by kernel_rfl
def YB:K4.id=lA:=by kernel_rfl
def Y9:Xo.id=lB:=by kernel_rfl
def oF:Z8.id=lC:=by kernel_rfl
def xG:B_.id=lD:=by kernel_rfl
def A73:N?.id=lE:=by kernel_rfl
def C0x:sO 77=lM:=by kernel_rfl
end
section
variable{L n:Nat}
def RT(R:Rt)(f:Nat)(args:Is)(v:AV):Prop:=(R.call f args [] λv a=>I5 true a depth v λ_ c=>some (c,[]))=some (v,[])
def HB{R:Rt}{f:Nat}{args args':Is}{v:AV}{H:Hp}{K:K2}(hc:RT R f args' v)(a:Py true depth args args' H false):Aj R f args H K=K v:=by
 unfold Aj;rw[a];show Am (R.call f args' [] _) K=K v;rw[show((!false)=true) from rfl,hc];rfl
def gs4:dn:=[B_,Z8,Xo,K4]
def xF:K4.Ok:=A77▸rG (by simp)
def xE:Xo.Ok:=A76▸rG (by simp)
def A72:Z8.Ok:=A75▸rG (by simp[lA,lB])
def B6C:B_.Ok:=A74▸rG (by simp[lC,lM])
def B6B:N?.Ok:=by
 obtain⟨h,a⟩:=xE;exact⟨⟨⟨by decide,by decide,by decide,by decide,by decide,by decide,by decide,by decide,by decide,by decide⟩,h.c1,h.c2,h.r1,h.r2,h.ts⟩,a⟩
def qL:GOk gs4:=by
 refine⟨?_,?_,?_,by decide⟩
 ·intro c hc;simp only[gs4,Qd,List.not_mem_nil,or_false]at hc;rcases hc with rfl|rfl|rfl|rfl
  ·exact B6C
  ·exact A72
  ·exact xE
  ·exact xF
 ·intro c hc;simp only[gs4,Qd,List.not_mem_nil,or_false]at hc;rcases hc with rfl|rfl|rfl|rfl
  ·show[lC,lM].Nodup;decide
  ·show[lA,lB].Nodup;decide
  ·show([]:List Ha).Nodup;decide
  ·show([]:List Ha).Nodup;decide
 ·show[B_.id,Z8.id,Xo.id,K4.id].Nodup;rw[YB,Y9,oF,xG];decide
def Oe:AV:=.list 4 (B_.cs++(Z8.cs++(Xo.cs++K4.cs)))
def Vj:LA gs4 Oe:=.inl (by
 show AV.list 4 _=AV.list 4 (gs4.flatMap Cd.cs);simp[gs4])
def of4(a:40000<L):∀H K,Aj (r! L (n+64)) Eb [Oe] H K=K (.tup [.imap [(.string ⟨⟨lD⟩⟩,.agg B_.cs),(.string ⟨⟨lC⟩⟩,.agg Z8.cs),(.string ⟨⟨lB⟩⟩,.agg Xo.cs),(.string ⟨⟨lA⟩⟩,.agg K4.cs)],Bo true]):=by
 intro H K;rw[En (wX (n:=n) qL a Vj) (Aq (Vj.fx H) AG)];have e:gV gs4=.imap [(.string ⟨⟨lD⟩⟩,.agg B_.cs),(.string ⟨⟨lC⟩⟩,.agg Z8.cs),(.string ⟨⟨lB⟩⟩,.agg Xo.cs),(.string ⟨⟨lA⟩⟩,.agg K4.cs)]:=by
  have:gE gs4=[(lD,B_),(lC,Z8),(lB,Xo),(lA,K4)]:=by simp[gE,gs4,YB,Y9,oF,xG]
  rw[gV,this];rfl
 rw[e]
def A4U(a:40000<L):RT (r! L (n+65)) Ff [Oe] (Dp [lM]):=by
 unfold RT;rw[Su];unfold LO;rw[of4 a];kernel_rfl
def B1p(a:40000<L):RT (r! L (n+65)) IW [Oe] (Bo true):=by
 unfold RT;rw[V7];unfold OX XA3;rw[of4 a];kernel_rfl
def B1t(a:40000<L):RT (r! L (n+65)) Gz [Oe] (Dp [lD]):=by
 unfold RT;rw[V9];unfold OZ;rw[of4 a];kernel_rfl
def B9Q(a:40000<L):RT (r! L (n+65)) CL [Oe,S lC] (Dp [lB,lA]):=by
 unfold RT;rw[Lz];unfold I4;rw[of4 a];kernel_rfl
def B9P(a:40000<L):RT (r! L (n+65)) CL [Oe,S lD] (Dp [lB,lC,lA]):=by
 unfold RT;rw[Lz];unfold I4;rw[of4 a];kernel_rfl
def B1w(a:40000<L):RT (r! L (n+65)) Fg [Oe,S lC] (.tup [.agg Z8.cs,Bo true]):=by
 unfold RT;rw[Rw];unfold Ny NW;simp only[of4 a];kernel_rfl
def B1v(a:40000<L):RT (r! L (n+65)) Fg [Oe,S lM] (.tup [.agg Bi,Bo false]):=by
 unfold RT;rw[Rw];unfold Ny NW;simp only[of4 a];kernel_rfl
end
section
variable{c:Cd}{k:Int}
variable{L n:Nat}
section
variable{K:KV}{x:Af}{H:Hp}{z:Nat}
def A0D{cs:Is}(w:Wf H)(hz:Al H z=some (c_ Ad Bi))(h1:cs.length=68)(h2:cs.all AV.one=true)(t:∀h,(∀s q,s≠z->Al H s=some q->Al h s=some q)->K (.agg cs) h=x):
 (Ba Ad Ae H λj p=>Dr Ae j (.agg cs) p λi=>A7 Ae j i λf=>Dr Ae (.ptr z 0 0) f i λa=>A7 Ae (.ptr z 0 0) a λg=>K g a)=x:=by
 obtain⟨y,r,m1,w1,d⟩:=DY (e:=Ad) (zs:=Bi) (vs:=cs) w h1;rw[AP (cs:=Bi) rfl,Bv (cs:=Bi) (vs:=cs) (Av (by simp)) h1 rfl h2,<-r];obtain⟨m, -⟩:=d _ _ hz;rw[AX (cs:=cs) rfl (by exact h1.symm) m1,Bv m h1 rfl h2,AX (cs:=cs) rfl (by exact h1.symm) (A5 m)];exact t _ λs q v u=>by rw[Ah v];exact(d _ _ u).1
def tZ{a:Int}(h1: -100<=a)(h2:a<=100):KO a:=by unfold KO;omega
def A3q(i:40000<L)(h1:1<=k)(h2:k<=2)(hc:cdM 0 0 (k-1) 0 0 0 0 0 0 0 0 0 none []=c):CT (r! L (n+45)) EH [I k] (.agg c.cs):=by
 intro K h;rw[VM];unfold Lv Az;obtain⟨t,z,g,p,e,w1,k1⟩:=push E1 (c_ Ad Bi) (by simp);have b0:∀{K:K2},BZ Bt [] K=K (.agg [I 0,I 0,I 0,I 0,I 0,I 0]):=λ{K}=>id rfl;have b2:∀{K:K2},BZ Bt [(0,1,(AV.v (.int .i64 0))),(1,1,(AV.v (.int .i64 0))),(2,1,I (k-1)),(3,1,(AV.v (.int .i64 0))),(4,1,(AV.v (.int .i64 0))),(5,1,(AV.v (.int .i64 0)))] K=K (.agg [I 0,I 0,I (k-1),I 0,I 0,I 0]):=λ{K}=>id rfl;rw[AP (cs:=Bi) rfl,<-p,<-g,IE,Cz (by omega) (by omega),b2,b0];have a:KO 0:=tZ (by decide) (by decide);refine oR (n:=n) (y:=none) (l:=[]) i w1 a a (tZ (by omega) (by omega)) a a a a a a a a a (λf _=>⟨false,CG⟩) trivial (.inl (.inr ⟨rfl,rfl⟩)) (by decide) (by simp) ?_;rw[hc];intro v f sv nv r kp fr;refine A0D r (kp _ _ e) (Ln c) (XJ c (AZ.one sv)) λu m=>?_;have hz:∀s,A6 v s->s≠z:=λs d=>by have:=fr s d;have:=w1.lt e;omega
 obtain⟨q,hq⟩:=zM (D:=depth-2) (sv.kp λs q d j=>m s q (hz s d) j) nv;exact h _ _ ⟨q,PR (D:=depth-1) hq⟩
def A3r(p:40000<L)(h1:1<=k)(h2:k<=9){l:List Ha}(e:l.length=2)(d:∀s∈l,s.length=32)(hc:cdM 1 0 (9+k-1) 0 0 0 3 3 3 0 0 0 none l=c):CT (r! L (n+45)) FR [I k,Dp l] (.agg c.cs):=by
 intro K m;rw[VN];unfold Lw Az;obtain⟨A,z,j,u,h,w1,k1⟩:=push E1 (c_ Ad Bi) (by simp);have b0:∀{K:K2},BZ Bt [(0,1,(AV.v (.int .i64 3))),(1,1,(AV.v (.int .i64 3))),(2,1,(AV.v (.int .i64 3))),(3,1,(AV.v (.int .i64 0))),(4,1,(AV.v (.int .i64 0))),(5,1,(AV.v (.int .i64 0)))] K=K (.agg [I 3,I 3,I 3,I 0,I 0,I 0]):=λ{K}=>id rfl;have b2:∀{K:K2},BZ Bt [(0,1,(AV.v (.int .i64 1))),(1,1,(AV.v (.int .i64 0))),(2,1,I (9+k-1)),(3,1,(AV.v (.int .i64 0))),(4,1,(AV.v (.int .i64 0))),(5,1,(AV.v (.int .i64 0)))] K=K (.agg [I 1,I 0,I (9+k-1),I 0,I 0,I 0]):=λ{K}=>id rfl;have sub:∀{K:K2},Ap Ac .sub (I ((2:Nat):Int)) (.v (.int .i64 1)) K=K (I 1):=λ{K}=>by kernel_rfl
 have mul:∀{K:K2},Ap Ac .mul (.v (.int .i64 9)) (I 1) K=K (I 9):=λ{K}=>by kernel_rfl
 rw[AP (cs:=Bi) rfl,<-u,<-j,(Ng l).len,e,sub,mul,CO,Cz (by omega) (by omega),IE,Cz (by omega) (by omega),b2,b0];have a:KO 0:=tZ (by decide) (by decide);have g:KO 3:=tZ (by decide) (by decide);refine oR (n:=n) (y:=none) (l:=l) p w1 (tZ (by decide) (by decide)) a (tZ (by omega) (by omega)) a a a g g g a a a (λi _=>⟨false,CG⟩) trivial (.inl (Ng l)) (by omega) d ?_;rw[hc];intro v i sv nv w kp fr;refine A0D w (kp _ _ h) (Ln c) (XJ c (AZ.one sv)) λB t=>?_;have hz:∀s,A6 v s->s≠z:=λs f=>by have:=fr s f;have:=w1.lt h;omega
 obtain⟨q,hq⟩:=zM (D:=depth-2) (sv.kp λs q f r=>t s q (hz s f) r) nv;exact m _ _ ⟨q,PR (D:=depth-1) hq⟩
end
def gs3:dn:=[K4,Xo,N?]
def A8j:AV:=.list 3 (K4.cs++(Xo.cs++N?.cs))
def B7M:GOk gs3:=by
 refine⟨?_,?_,?_,by decide⟩
 ·intro c hc;simp only[gs3,Qd,List.not_mem_nil,or_false]at hc;rcases hc with rfl|rfl|rfl
  ·exact xF
  ·exact xE
  ·exact B6B
 ·intro c hc;simp only[gs3,Qd,List.not_mem_nil,or_false]at hc;rcases hc with rfl|rfl|rfl<;>(show([]:List Ha).Nodup;decide)
 ·show[K4.id,Xo.id,N?.id].Nodup;rw[YB,Y9,A73];decide
def yF:LA gs3 A8j:=.inl (by
 show AV.list 3 _=AV.list 3 (gs3.flatMap Cd.cs);simp[gs3])
def of3(a:40000<L):∀H K,Aj (r! L (n+64)) Eb [A8j] H K=K (.tup [.imap [(.string ⟨⟨lA⟩⟩,.agg K4.cs),(.string ⟨⟨lB⟩⟩,.agg Xo.cs),(.string ⟨⟨lE⟩⟩,.agg N?.cs)],Bo true]):=by
 intro H K;rw[En (wX (n:=n) B7M a yF) (Aq (yF.fx H) AG)];have e:gV gs3=.imap [(.string ⟨⟨lA⟩⟩,.agg K4.cs),(.string ⟨⟨lB⟩⟩,.agg Xo.cs),(.string ⟨⟨lE⟩⟩,.agg N?.cs)]:=by
  have:gE gs3=[(lA,K4),(lB,Xo),(lE,N?)]:=by simp[gE,gs3,YB,Y9,A73]
  rw[gV,this];rfl
 rw[e]
def A8k:AV:=.list 2 (K4.cs++K4.cs)
def yG:LA [K4,K4] A8k:=.inl (by
 show AV.list 2 _=AV.list 2 ([K4,K4].flatMap Cd.cs);simp)
def of2(hL:40000<L):CT (r! L (n+64)) Eb [A8k] (.tup [.imap [],Bo false]):=by
 intro K hK;have w:=yG;rw[ZR];unfold Vf Az MS Fk;have em:∀(H:Hp)(K:KV),JK Ae H K=K (.mp (Ax H)) ((Ax H,.map false [] none)::H):=λH K=>by
  show HV H (λs=>K (.mp s) ((s,.map false [] (xX Ae.d))::H))=_;rw[BW];rfl
 have h:=A9E (L:=L) (n:=n) hL xF (show([]:List Ha).Nodup by decide);have t:∀(F:Value->Af),It (S K4.id) F=F (SV K4.id):=λF=>id rfl;have q1:∀{K},Ap Ag .eql (S K4.id) (S []) K=K (Bo false):=λ{K}=>by rw[MK,KD (rF _)]
 rw[em];simp only[BJ];have C:=Av (H:=[]) (x:=.map false [] none) (by simp);have wf:=AM (x:=.map false [] none) E1;generalize ((Ax [],Row.map false [] none)::([]:Hp))=Q at C wf;generalize Ax []=r at C;have X:(AV.v (.int .i64 0))=I ((0:Nat):Int):=rfl;rw[w.len,X];show Sy (L+20) (r! L (n+63)) K _ ((L+18)+1+1) _ _ _ _ _ Q=_;rw[Tp];unfold Pq HN JD Az MS Fk;have i0:([K4,K4]:dn)[0]=K4:=rfl;have i1:([K4,K4]:dn)[1]=K4:=rfl;have N:=λK=>w.ia (K:=K) (i:=0) (by decide);have a1:=λK=>w.ia (K:=K) (i:=1) (by decide);rw[i0]at N;rw[i1]at a1;obtain⟨R,Y,g,w1,k1⟩:=DY (e:=Ad) (zs:=Bi) (vs:=K4.cs) wf BC;rw[Fo (by decide),CA,N,qX,AP (cs:=Bi) rfl,Bv (cs:=Bi) (vs:=K4.cs) (Av (by simp)) BC rfl Ic,<-Y,AX rfl BC.symm g,AE h (eF R)];have j:=(k1 _ _ C).1;rw[t,RS (f:=JA) (b:=([]:List (Ha×Cd))) (λK=>Qt j)];have fn:Jo ([]:List (Ha×Cd)) K4.id=none:=rfl;rw[fn];simp only[];obtain⟨p,Z,aa,w2,O⟩:=DY (e:=Ad) (zs:=Bi) (vs:=Bi) w1 rfl;rw[CI,CH,AP (cs:=Bi) rfl]
 erw[Bv (cs:=Bi) (vs:=Bi) (Av (by simp)) rfl rfl rfl]
 rw[<-Z];have J:=(O _ _ j).1;have A:=(O _ _ g).1;simp only[gT,Ck,q1,ZG];have a:Al p r=some (.map false (Fc JA ([]:List (Ha×Cd))) none):=J;rw[Bm,AX rfl BC.symm A,t,SF (f:=JA) (v:=K4) a,Dg (by decide)];have m:Al (upd p r (.map false (Fc JA (F1 ([]:List (Ha×Cd)) K4.id K4)) none)) r=some (.map false (Fc JA (F1 ([]:List (Ha×Cd)) K4.id K4)) none):=(Dk a).trans rfl;have P:=Bs (r:=r) (y:=.map false (Fc JA (F1 ([]:List (Ha×Cd)) K4.id K4)) none) w2;generalize upd p r (.map false (Fc JA (F1 ([]:List (Ha×Cd)) K4.id K4)) none)=H3 at m P;rw[Tp];unfold Pq HN JD Az MS Fk;obtain⟨V,e4,B,w4,k4⟩:=DY (e:=Ad) (zs:=Bi) (vs:=K4.cs) P BC;rw[Fo (by decide),CA,a1,qX,AP (cs:=Bi) rfl,Bv (cs:=Bi) (vs:=K4.cs) (Av (by simp)) BC rfl Ic,<-e4,AX rfl BC.symm B,AE h (eF V)];have M:=(k4 _ _ m).1;have u:Jo (F1 ([]:List (Ha×Cd)) K4.id K4) K4.id=some K4:=by rw[GQ,CZ rfl]
 rw[t,RS (f:=JA) (b:=F1 ([]:List (Ha×Cd)) K4.id K4) (λK=>Qt M),u];simp only[];obtain⟨H5,e5,ab,w5,k5⟩:=DY (e:=Ad) (zs:=Bi) (vs:=K4.cs) w4 BC;rw[CI,CH,AP (cs:=Bi) rfl,Bv (cs:=Bi) (vs:=K4.cs) (Av (by simp)) BC rfl Ic,<-e5];simp only[gFT,Ck,Xu];rw[CA,em];refine hK _ _ ⟨true,Vq (D:=depth-1) (q:=true) (Aq (B49 (D:=depth-5) (es:=[]) (Av (by simp))) (Aq (q:=false) CG AG))⟩
def A78(a:40000<L):RT (r! L (n+65)) IW [A8k] (Bo false):=by
 unfold RT;rw[V7];unfold OX XA3;rw[En (of2 (n:=n) a) (Aq (yG.fx []) AG)];kernel_rfl
def B6E:RT (r! L (n+65)) Ew [.agg Z8.cs,.agg Z8.cs] (Bo true):=by unfold RT;kernel_rfl
def B9O:RT (r! L (n+2)) Bl [Dp [lM],Dp [lM]] (Bo true):=by unfold RT;kernel_rfl
def B9N:RT (r! L (n+2)) Bl [Dp [lD],Dp [lD]] (Bo true):=by unfold RT;kernel_rfl
def B9M:RT (r! L (n+2)) Bl [Dp [lB,lA],Dp [lB,lA]] (Bo true):=by unfold RT;kernel_rfl
def B9L:RT (r! L (n+2)) Bl [Dp [lB,lA,lC,lD],Dp [lB,lA,lC,lD]] (Bo true):=by unfold RT;kernel_rfl
end
section
variable{L n:Nat}
def B1u(a:40000<L):RT (r! L (n+65)) G6 [A8j] (.list 1 [S lE,S lB]):=by
 unfold RT;rw[VA];unfold Pb Az;rw[of3 a];kernel_rfl
end
end Go.Abs
end
