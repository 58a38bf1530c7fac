import Derived.Shelf.Strings.OnBuilder
import Derived.Shelf.Strings.Repeat
import Derived.Shelf.Sort.Plain
import Derived.Shelf.Spec.SlicesGrow
import Derived.Test.YtdaajghondabnaaGreatDoorProg
import Derived.ProofKit
import Derived.Deep.Slices
import Derived.OpenShut
import Derived.Test.YtdaajghondabnaaGreatDoorRows
import Derived.LaidMore
import Derived.Stop.Joined
import Derived.MakeChecks
import Derived.FnData
import Derived.DataElems
import Derived.Lay
import Derived.Test.YtdaajghondabnaaGreatDoorTie
import Derived.Test.YtdaajghondabnaaGreatDoorCards
import Derived.SevenTiedAt
import Derived.Test.YtdaajghondabnaaGreatDoorP30
import Derived.Test.YtdaajghondabnaaGreatDoorP31
import Derived.Test.YtdaajghondabnaaGreatDoorP32
set_option linter.all false
set_option maxHeartbeats 100000000
noncomputable section
namespace Go.Abs
open Go.RowKit Go.Proofs
set_option maxRecDepth 100000
section
variable{s:AR}{F:K2}{PP:Af->Prop}
variable{L n:Nat}
section
variable{H H0 H':Hp}{v dv cv pv:AV}{A:ed}{K:KV}{x0:Af}{x:AV}{r m:Nat}{q:Pk}{l:List AR}
def wK.nn(h:wK H v l)(b:l≠[]):Ar Ac .eql v (AV.v (.slice none 0 0)) F=F (Bo false):=by
 cases l with
 |nil=>exact absurd rfl b
 |cons a l=>
  rcases h with h|h
  ·rcases h with rfl|⟨h,_⟩
   ·exact r_ rfl
   ·cases h
  ·rcases h with⟨_,h⟩|⟨r,q,c,rfl,_⟩
   ·cases h
   ·exact r_ rfl
theorem wK.src(h:wK H v l){F:Nat->Is->Af}:Tz H v F=F l.length (AE l):=by
 rcases h with h|h
 ·exact h.src
 ·rcases h with⟨rfl,rfl⟩|⟨r,q,a,rfl,h2⟩
  ·rfl
  ·have:Tz H (.sl 1 r 0 l.length) F=IR H r λx=>Ki x λ_ cs=>EO (Nat.mul l.length 1) (Dn 0 cs) λc=>F l.length c:=rfl;rw[this,Bp h2];show EO (l.length*1) (Dn 0 (AE l++a)) (λc=>F l.length c)=_;rw[CA,rB,KS _ _ _ (by rw[EK,Bc];omega),qZ,l32 (by rw[Bc];omega),l25 (by rw[Bc];omega)]
theorem wK.ok(h:wK H v l):(dJ Ac.d&&T6 1 v)=true:=by
 rcases h with h|h
 ·exact h.ok
 ·rcases h with⟨rfl,rfl⟩|⟨r,q,a,rfl,h2⟩<;>rfl
def A0T(wf:Wf H)(h:wK H v l)(w:l=[]->v=Av)(hn:l.length<100000)(i:∀b H',NB H' b l->(∀u,A9 b u->As H<=u)->Wf H'->(∀u y,Ai H u=some y->Ai H' u=some y)->As H<=As H'->PP (K b H')):
 PP ((r! L (n+1)).call Bm [v] H K):=by
 rw[FY];unfold DJ Ih;by_cases d:l=[]
 ·subst d;obtain rfl:=w rfl;have e:∀{K:K2},Ar Ac .eql Av (AV.v (.slice none 0 0)) K=K (Bo true):=λ{K}=>r_ rfl;rw[e,Cu];exact i Av H (.inl ⟨rfl,rfl⟩) (λu a=>absurd a IN) wf (λu y a=>a) (Mh _)
 ·rw[h.nn d,AZ,B6M];have w1:=AG (x:=.cells false Aq []) wf;have j:∀u y,Ai H u=some y->Ai ((As H,Row.cells false Aq [])::H) u=some y:=λu y a=>A7 (wf.lt a) a;have B:Bk ((As H,.cells false Aq [])::H) Aq 1 (.sl 1 (As H) 0 0) 0 []:=.inr ⟨As H,false,rfl,Ax (by simp),rfl⟩;have f:=h.keep j;obtain⟨b,H',k,p,t,c⟩:=apt (ie:=Ah) (i2:=Ac) B (λK=>f.src (F:=K)) (by rw[Bc,qZ]) (kS (λ_=>rfl) l) (by decide) rfl f.ok (by show(0+l.length)*16<=_;omega) (by omega);rw[k];have n1:As ((As H,Row.cells false Aq [])::H)=As H+1:=rfl;refine i b H' ?_ (λu a=>?_) (c.wf w1) (λu y a=>?_) ?_
  ·rcases p with⟨_,h,_⟩|⟨r,q,rfl,h2,_⟩
   ·exact absurd (mH (by omega)) d
   ·exact .inr ⟨r,q,[],by rw[Kd],by rw[V0];exact h2⟩
  ·have:=t u a;omega
  ·have:=wf.lt a;exact c.keep w1 u y (j u y a) λ⟨_,_,_,g⟩=>by injection g with _ g;omega
  ·have:=c.nx;omega
def A9a(wf:Wf H)(h:wK H v l)(c:l=[]->v=Av)(hn:l.length<100000)(d:∀b H',NB H' b l->(∀u,A9 b u->As H<=u)->Wf H'->(∀u y,Ai H u=some y->Ai H' u=some y)->As H<=As H'->K b H'=x0):
 (r! L (n+1)).call Bm [v] H K=x0:=
 A0T (PP:=λa=>a=x0) wf h c hn d
structure PkS(H:Hp)(v:AV)(q:Pk):Prop where
 at_:∃dv cv,v=.agg [I q.kd,dv,cv]/\wK H dv q.ds/\dR H cv q.cs/\(q.ds=[]->dv=Av)
def PkS.pk(h:PkS H v q):C4y H v q:=by
 obtain⟨dv,cv,h1,h2,a,_⟩:=h.at_;exact⟨dv,cv,h1,h2,a⟩
theorem PkS.keep(h:PkS H v q)(k:∀u y,Ai H u=some y->Ai H' u=some y):PkS H' v q:=by
 obtain⟨dv,cv,h1,h2,a,b⟩:=h.at_;exact⟨dv,cv,h1,h2.keep k,a.keep λu y _ c=>k u y c,b⟩
def A3e(e:rP H x A):Ap (r! L (n+1)) BR [x,S s] H F=F (Bo (decide (s∈A.map Cd.id))):=by
 obtain⟨q1,c⟩:=e.fx (D:=7);refine AP (λK d=>?_) (Ao c (Ao (q:=false) CC AH));rw[Uz];unfold Kw LR;rw[A0C];refine A45 (b:=gE A) (F:=λf _ a=>K f a) (λK=>r_ rfl) λH' _=>?_;rw[iZ];exact d _ _ λb=>⟨false,CC⟩
abbrev C09(x:AV):AV:=.fn (.func BR) [x] []
def A8C{N:Nat}:C4 (E (L+20)) (rt (L+20) N) (C09 x) [S s] H K=Ap (rt (L+20) N) BR [x,S s] H λv=>K v H:=by
 show SX [S s] [] (λa=>SX [x] a λall=>A24 ((E (L+20)).ne BR) all H K (@Bool.rec (λ_=>Af) (zpm (E (L+20)) BR (rt (L+20) N) all H λv=>K v H) ((rt (L+20) N).call BR all H K) ((E (L+20)).imp BR)))=_;rw[Jx,Jx,show(E (L+20)).ne BR=false from rfl,show(E (L+20)).imp BR=false from rfl];show zpm (E (L+20)) BR (rt (L+20) N) [x,S s] H (λv=>K v H)=_;rw[A2U (by simp)]
def B5a{D:Nat}(c:rP H x A):∃q,Fx true (D+6) (C09 x) (C09 (.iptr [.imap (Di DX (gE A))])) H q:=by
 obtain⟨q1,h1⟩:=c.fx (D:=D);refine⟨q1,λK=>?_⟩;show II (HV true H (D+5)) [x] (λq b=>II (HV true H (D+5)) [] λd a=>K (@Bool.rec (λ_=>Bool) d true q) (.fn (.func BR) b a))=_;have h2:R9 true (D+5) [x] [.iptr [.imap (Di DX (gE A))]] H (q1||false):=Ao h1 AH;rw[h2];show K (@Bool.rec (λ_=>Bool) false true (q1||false)) _=_;cases q1<;>rfl
def A0L(O:GOk A)(M:200000<L)(wf:Wf H)(g:StAt H r m A)(R:PkS H pv q)(N:q.ds.length<=40)(X:∀H',Lat H H' (λ_=>False)->PP (K (xL (dS A (q.ds.filter λs=>decide (s∉A.map Cd.id)))) H')):PP ((r! L (n+83)).call CL [.ptr r 0 0,pv] H K):=by
 obtain⟨dv,cv,rfl,h1,h2,J⟩:=R.at_;rw[SB];unfold J9 Dz;have Y:([I q.kd,dv,cv]:Is).all AV.one=true:=by
  have a1:=h1.one.2;have a2:=h2.one.2;simp only[oF,l3a,a1,a2];rfl
 rw[DN Y];have w1:=AG (x:=.cells true Ay [I q.kd,dv,cv]) wf;have i:∀u y,Ai H u=some y->Ai ((As H,c_ Ay [I q.kd,dv,cv])::H) u=some y:=λu y a=>A7 (wf.lt a) a;have b1:Ai ((As H,c_ Ay [I q.kd,dv,cv])::H) (As H)=some (c_ Ay [I q.kd,dv,cv]):=Ax (by simp);rw[fA,Kd,AF (p:=1) rfl b1 (by simp)];refine A0T (n:=n+81) w1 (h1.keep i) J (by omega) λC t r2 f j w n2=>?_;have s2:=g.keep λu y a=>w u y (i u y a);obtain⟨Z,e⟩:=B5a (D:=6) s2.sv;have n2:As H+1<=As t:=n2;have d:∀u,A9 C u->As H+1<=u:=λu a=>f u a;have b:∀{c},Lat t c (A9 C)->∀u y,Ai H u=some y->Ai c u=some y:=λ{c}k u y a=>k.keep j u y (w u y (i u y a)) λQ=>by have:=d u Q;have:=wf.lt a;omega
 refine A96 (n:=n+80) (P:=λs=>decide (s∈A.map Cd.id)) j r2 (by omega) (by omega) ⟨_,Z,e,λs K=>?_⟩ (λc k3 s K=>?_) λv3 c B V k3=>?_
 ·rw[A8C];exact A3e (n:=n+79) (.inl rfl)
 ·rw[A8C];exact A3e (n:=n+80) (g.keep (b k3)).sv
 ·have w3:=k3.wf j;have ef:(q.ds.filter λs=>!decide (s∈A.map Cd.id))=q.ds.filter λs=>decide (s∉A.map Cd.id):=by
   congr 1
   funext s
   by_cases h:s∈A.map Cd.id<;>simp[h]
  rw[ef]at B;rw[A8I (n:=n) O M (g.keep (b k3)).sv (.inr B) (XV (l30 _ _) N)];exact X c ⟨λ_=>w3,by have:=k3.nx;omega,λ_ u y a _=>b k3 u y a⟩
def A90(d:GOk A)(b:200000<L)(wf:Wf H)(f:StAt H r m A)(e:PkS H pv q)(c:q.ds.length<=40)(g:∀H',Lat H H' (λ_=>False)->K (xL (dS A (q.ds.filter λs=>decide (s∉A.map Cd.id)))) H'=x0):(r! L (n+83)).call CL [.ptr r 0 0,pv] H K=x0:=
 A0L (PP:=λa=>a=x0) d b wf f e c g
end
end
section
variable{L n:Nat}
abbrev PV:=List (Pk×AV×AV)
def pvC(p:Pk×AV×AV):Is:=[I p.1.kd,p.2.1,p.2.2]
structure PvOk(H:Hp)(p:Pk×AV×AV):Prop where
 ds:wK H p.2.1 p.1.ds
 cs:dR H p.2.2 p.1.cs
 nl:p.1.ds=[]->p.2.1=Av
def B2s(H:Hp)(v:AV)(ps:PV):Prop:=(v=Av/\ps=[])\/v=.list ps.length (ps.flatMap pvC)\/∃r q a,v=.sl 3 r 0 ps.length/\Ai H r=some (.cells q Ay (ps.flatMap pvC++a))
structure PksAt(H:Hp)(v:AV)(l:List Pk):Prop where
 at_:∃ps:PV,ps.map Prod.fst=l/\(∀p∈ps,PvOk H p)/\B2s H v ps
section
variable{H H0 H':Hp}{v dv cv pv:AV}{A:ed}{K:KV}{x0:Af}{x:AV}{r m:Nat}{q:Pk}{l:List AR}{ps:PV}
def B9v(ps:PV):(ps.flatMap pvC).length=ps.length*3:=A61 (f:=pvC) (w:=3) (λ_=>rfl) ps
def PksAt.pks{ls:List Pk}:PksAt H (xL ls) ls:=by
 refine⟨ls.map λp=>(p,DD p.ds,match p.cs with|[]=>Av|c::cs=>.list (c::cs).length ((c::cs).flatMap PC.cells)),by rw[List.map_map];exact List.map_id _,λp b=>?_,?_⟩
 ·obtain⟨a,_,rfl⟩:=Rc.1 b;refine⟨.inl (Mt _),?_,λh=>?_⟩
  ·show dR H (match a.cs with|[]=>Av|c::cs=>.list (c::cs).length ((c::cs).flatMap PC.cells)) a.cs;cases a.cs with
   |nil=>exact .inl ⟨rfl,rfl⟩
   |cons c cs=>exact .inr (.inl rfl)
  ·have h:a.ds=[]:=h;show DD a.ds=Av;rw[h];rfl
 ·cases ls with
  |nil=>exact .inl ⟨rfl,rfl⟩
  |cons p ls=>
   refine .inr (.inl ?_);show AV.list _ _=AV.list _ _;rw[UH,List.flatMap_map];rfl
def B5Z{s:AR}:CS (r! L (n+2)) Fm [S s,.iptr [.iptr [.imap (Di DX (gE A))]]] (Bo (decide (s∉A.map Cd.id))):=by
 intro K c;rw[Pm];unfold HF LR;have a:∀{F:K2},AD BL (.iptr [.iptr [.imap (Di DX (gE A))]]) [] F=F (.iptr [.imap (Di DX (gE A))]):=λ{F}=>by kernel_rfl
 rw[a,A3e (n:=n) (.inl rfl),Eh];have:(!decide (s∈A.map Cd.id))=decide (s∉A.map Cd.id):=by by_cases h:s∈A.map Cd.id<;>simp[h]
 rw[this];exact c _ _ λb=>⟨false,CC⟩
def A5X{ws:List AR}:gvn A ws=[]↔RG (Et (ws.filter λx=>decide (x∈A.map Cd.id)))=[]:=by
 constructor
 ·intro h;cases hc:RG (Et (ws.filter λx=>decide (x∈A.map Cd.id))) with
  |nil=>rfl
  |cons a t=>
   have d:a∈RG (Et (ws.filter λx=>decide (x∈A.map Cd.id))):=by rw[hc];simp
   rw[Z_,(Bq _).mem_iff,l2z,decide_eq_true_eq]at d;obtain⟨c,b⟩:=V_ d.2;unfold gvn at h;rw[hc,List.filterMap_cons,b]at h;cases h
 ·intro h;unfold gvn;rw[h];rfl
def A6F(hg:GOk A)(hL:200000<L)(wf:Wf H)(hs:StAt H r m A)(N:PkS H pv q)(hd:q.ds.length<=64)(O:∀J H',PksAt H' J (U_ A q.ds)->Lat H H' (λ_=>False)->K J H'=x0):(r! L (n+83)).call Dw [.ptr r 0 0,pv] H K=x0:=by
 obtain⟨dv,cv,rfl,h1,h2,h3⟩:=N.at_;rw[Ro];unfold Jm Dz A3;rw[A4G ⟨rfl,rfl⟩];have o3:([I q.kd,dv,cv]:Is).all AV.one=true:=by
  have a1:=h1.one.2;have a2:=h2.one.2;simp only[oF,l3a,a1,a2];rfl
 rw[DN o3];have w0:=AG (x:=.cells true AX [.ptr r 0 0]) wf;have e0:As ((As H,c_ AX [.ptr r 0 0])::H)=As H+1:=rfl;rw[e0];have w1:Wf ((As H+1,c_ Ay [I q.kd,dv,cv])::(As H,c_ AX [.ptr r 0 0])::H):=AG (x:=.cells true Ay [I q.kd,dv,cv]) w0;have Q:∀u y,Ai H u=some y->Ai ((As H+1,c_ Ay [I q.kd,dv,cv])::(As H,c_ AX [.ptr r 0 0])::H) u=some y:=λu y a=>by
  have a1:=A7 (x:=.cells true AX [.ptr r 0 0]) (wf.lt a) a;exact A7 (w0.lt a1) a1
 have V:Ai ((As H+1,c_ Ay [I q.kd,dv,cv])::(As H,c_ AX [.ptr r 0 0])::H) (As H)=some (c_ AX [.ptr r 0 0]):=A7 (H:=(As H,c_ AX [.ptr r 0 0])::H) (by rw[e0];omega) (Ax (by simp));have b1:Ai ((As H+1,c_ Ay [I q.kd,dv,cv])::(As H,c_ AX [.ptr r 0 0])::H) (As H+1)=some (c_ Ay [I q.kd,dv,cv]):=Ax (H:=(As H,c_ AX [.ptr r 0 0])::H) (by simp);have n1:As ((As H+1,c_ Ay [I q.kd,dv,cv])::(As H,c_ AX [.ptr r 0 0])::H)=As H+2:=rfl;generalize ((As H+1,c_ Ay [I q.kd,dv,cv])::(As H,c_ AX [.ptr r 0 0])::H:Hp)=M at w1 Q V b1 n1;rw[fA,Nat.add_comm 0 1,AF (p:=1) rfl b1 (by simp)];refine A9a (n:=n+81) w1 (h1.keep Q) h3 (by omega) λJ H2 r2 aa w2 k2 n2=>?_;have g:∀u,A9 J u->As H+2<=u:=λu a=>by have:=aa u a;omega
 have B:∀{d},Lat H2 d (A9 J)->∀u y,Ai M u=some y->Ai d u=some y:=λ{d}k u y a=>k.keep w2 u y (k2 u y a) λw=>by have:=g u w;have:=w1.lt a;omega
 have fxc:∀(D:Nat){d},(∀u y,Ai M u=some y->Ai d u=some y)->Fx true (D+6) (.ptr (As H) 0 0) (.iptr [.iptr [.imap (Di DX (gE A))]]) d true:=λD{d}k=>by
  obtain⟨qx,O⟩:=(hs.keep λu y a=>k u y (Q u y a)).sv.fx (D:=D);exact Xo (D:=D+5) (k _ _ V) (Ao O AH)
 refine A98 (n:=n+80) (P:=λs=>decide (s∉A.map Cd.id)) w2 r2 (by omega) (by omega) ⟨.fn (.func Fm) [] [.iptr [.iptr [.imap (Di DX (gE A))]]],_,zY (D:=11) (Ao (fxc 5 k2) AH),λs K=>?_⟩ (λd k3 s K=>?_) λv3 d r3 ab k3=>?_
 ·rw[I' rfl rfl];exact AP (B5Z (n:=n+78)) (Ao (q:=false) CC (Ao (q:=false) Rq AH))
 ·rw[I' rfl rfl];exact AP (B5Z (n:=n+79)) (Ao (q:=false) CC (Ao (fxc 6 (B k3)) AH))
 ·have w3:=k3.wf w2;have ef:(q.ds.filter λs=>!decide (s∉A.map Cd.id))=q.ds.filter λs=>decide (s∈A.map Cd.id):=by
   congr 1
   funext s
   by_cases h:s∈A.map Cd.id<;>simp[h]
  rw[ef]at r3;have Z:(q.ds.filter λs=>decide (s∈A.map Cd.id)).length<=64:=XV (l30 _ _) hd;have ae:=B k3;refine A5i (n:=n+78) r3 (by omega) λH4 r4 k4=>?_;have w4:=k4.wf w3;have b:∀u,A9 v3 u->As H+2<=u:=λu a=>g u (ab u a);have af:∀u y,Ai M u=some y->Ai H4 u=some y:=λu y a=>k4.keep w3 u y (ae u y a) λw=>by have:=b u w;have:=w1.lt a;omega
  refine B63 (n:=n+81) w4 r4 (by rw[(Bq _).length_eq];omega) (by omega) λv5 j r5 ah _ k5=>?_;have w5:=k5.wf w4;have C:∀u y,Ai M u=some y->Ai j u=some y:=λu y a=>k5.keep w4 u y (af u y a) λw=>by have:=b u w;have:=w1.lt a;omega
  have i:∀u y,Ai H u=some y->Ai j u=some y:=λu y a=>C u y (Q u y a);have ad:As H<=As j:=by have:=k3.nx;have:=k4.nx;have:=k5.nx;omega
  rw[r5.len,Cl];by_cases hz:gvn A q.ds=[]
  ·have f:=A5X.1 hz;rw[HR (by rw[f];rfl),Cu];refine O Av j ?_ ⟨λ_=>w5,ad,λ_ u y a _=>i u y a⟩;unfold U_;rw[Dq hz];exact PksAt.pks (ls:=[])
  ·have f:RG (Et (q.ds.filter λx=>decide (x∈A.map Cd.id)))≠[]:=λh=>hz (A5X.2 h);have ag:=List.length_pos_iff.2 f;rw[HW (λh=>f (mH (by simpa using h))),AZ];have lx:∀{F:K2},AD BL (.ptr (As H) 0 0) j F=F (.ptr r 0 0):=λ{F}=>AF (p:=0) rfl (C _ _ V) (by simp);rw[lx];have t:=A6d (Et (q.ds.filter λx=>decide (x∈A.map Cd.id)));rw[(Bq _).length_eq]at t;refine A95 (n:=n+76) (A:=A) hg (λy hy=>?_) (Nat.lt_of_le_of_lt (XV t Z) (by decide)) (by omega) w5 (hs.keep i).sv (.inr r5) λR H6 e=>?_
   ·rw[Z_,(Bq _).mem_iff,l2z,decide_eq_true_eq]at hy;exact hy.2
   ·have eg:Vo A (RG (Et (q.ds.filter λx=>decide (x∈A.map Cd.id))))=gvn A q.ds:=rfl;rw[eg]at e;have Y:=e.sl.co;have X:∀{F:K2},BP A5 [(0,1,(AV.v (.int .i64 3))),(2,1,R)] F=F (.agg [I 3,Av,R]):=λ{F}=>by
     rcases e.sl with⟨h,_⟩|⟨rr,qq,h,_⟩<;>(rw[h];kernel_rfl)
    rw[X,B1Q ⟨rfl,rfl⟩ Y];refine O _ _ ?_ ⟨λ_=>AG e.wf,by show As H<=As H6+1;have:=e.nx;omega,λ_ u y a _=>?_⟩
    ·unfold U_;rw[CF hz];have ac:=e.wf;refine⟨[(⟨3,[],(gvn A q.ds).map .c⟩,Av,R)],rfl,λp N=>?_,.inr (.inr ⟨As H6,false,[],rfl,Ax (by simp)⟩)⟩;rw[YR]at N;subst N;refine⟨.inl (.inr ⟨rfl,rfl⟩),?_,λ_=>rfl⟩;show dR _ R ((gvn A q.ds).map .c);rcases e.sl with⟨rfl,h1,h2⟩|⟨rr,qq,rfl,h2,_⟩
     ·exact absurd (mH h1) hz
     ·refine .inr (.inr ⟨rr,qq,[],by rw[UH],?_⟩);rw[V0,A5C];exact A7 (ac.lt h2) h2
    ·have:=e.keep u y (i u y a);exact A7 (e.wf.lt this) this
end
end
section
variable{d:Cd}
variable{L n:Nat}
section
variable{H H0 H':Hp}{v dv cv pv:AV}{A:ed}{K:KV}{x0:Af}{x:AV}{r m:Nat}{q:Pk}{l:List PC}{p:PC}
def A2I(h:d.id∈A.map Cd.id):Tn A (.c d)=(A,false,0):=Dq h
def wJ(h:d.id∉A.map Cd.id):Tn A (.c d)=(A++[d],true,0):=CF h
def G?:XD A (p::l)=XD (Tn A p).1 l:=by
 cases p with
 |z=>rfl
 |c d=>
  show XD (if d.id∈A.map Cd.id then A else A++[d]) l=_;by_cases h:d.id∈A.map Cd.id
  ·rw[Dq h,A2I h]
  ·rw[CF h,wJ h]
def A2J:(Tn A p).1.length=A.length+if(Tn A p).2.1 then 1 else 0:=by
 cases p with
 |z=>rfl
 |c d=>
  by_cases h:d.id∈A.map Cd.id
  ·rw[A2I h];rfl
  ·rw[wJ h];simp
def B5T:A.length<=(XD A l).length:=by
 induction l generalizing A with
 |nil=>exact Mh _
 |cons p l ih=>
  rw[G?];have:=ih (A:=(Tn A p).1);have e:=A2J (A:=A) (p:=p);omega
def bxC{F:KV}(g:∀H',Lat H H' (λ_=>False)->F (.agg p.cells) H'=x0):
 (Bx Ad Ae H λb c=>DF Ae b (.agg p.cells) c λa=>AD Ae b a λe=>F e a)=x0:=by
 rw[B1 (cs:=CN) rfl,BX (cs:=CN) (vs:=p.cells) (Ax (by simp)) p.len rfl p.one,Bu rfl p.len.symm (BH (Ax (by simp)))];refine g _ ⟨λw=>Bj (AG w),by rw[B4];show As H<=As H+1;omega,λw u y f _=>?_⟩;have:=w.lt f;rw[Ag (by omega)];exact A7 this f
def C4d(hc:dR H cv l)(c:StAt H r m A){u:Nat}(a:A9 cv u):u≠m:=by
 rcases hc with⟨rfl,_⟩|rfl|⟨g,f,i,rfl,h⟩
 ·exact absurd a (by simp[A9])
 ·exact absurd a (by simp[A9])
 ·intro e;obtain⟨_,_,_,b⟩:=a;cases b
  subst e;have:=c.mm;rw[h]at this;cases this
theorem A1T{B:ed}{k:AV->KV}(R:40000<L)(hq:∀p∈l,p.Ok)(D:l.length<1000)(Y:B.length<60)(e:Wf H0)(j:StAt H0 r m A)(c:dR H0 cv l)(X:∀H',StAt H' r m B->Lat H0 H' (λu=>u=m)->k (.ptr r 0 0) (Bo (decide (B.length≠A.length))) H'=x0):
 ∀(fuel i:Nat)(a:ed)(H:Hp),l.length<fuel+i->i<=l.length->XD a (l.drop i)=B->A.length<=a.length->StAt H r m a->Lat H0 H (λu=>u=m)->
  Ji (L+20) (r! L (n+65)) K k fuel (.ptr r 0 0) (Bo (decide (a.length≠A.length))) cv (I l.length) (I i) H=x0
 |0,i,a,H,h1,h2,_,_,_,_=>by omega
 |fuel+1,i,a,H,h1,h2,b,h4,V,s=>by
  rw[Rk];unfold Jj IA FQ A3 Kn;by_cases C:i<l.length
  ·have hc:dR H cv l:=c.keep λu y ru J=>s.keep e u y J (C4d c j ru);rw[Fz (by omega),Cu,hc.get C];refine bxC λH1 M=>?_;have w:=s.wf e;have s1:=V.keep λu y J=>M.keep w u y J id;have Z:l.drop i=l[i]::l.drop (i+1):=uZ C;rw[Z,G?]at b;have aa:(Tn a l[i]).1.length<=B.length:=by rw[<-b];exact B5T
   have P:=A2J (A:=a) (p:=l[i]);refine B7m (n:=n) R (hq _ (Qk C)) (M.wf w) s1 (by omega) λf s2 l2=>?_;rw[GX,Zg];have ef:∀{F:KV},(Dy (gdV false (Bo (decide (a.length≠A.length))) λg=>@Bool.rec (λ_=>Af) (some (AV.v undef,f)) (some (Bo (Tn a l[i]).2.1,f)) g) λN t=>Ch (Bo (decide (a.length≠A.length))) (AV.v (.bool true)) N λO=>F O t)=F (Bo (decide ((Tn a l[i]).1.length≠A.length))) f:=λ{F}=>by
    by_cases Q:a.length=A.length
    ·rw[HW (by simpa using Q),gT];show Dy (some (Bo (Tn a l[i]).2.1,f)) _=_;rw[Cb,RC]
     congr 2
     cases hb:(Tn a l[i]).2.1<;>rw[hb]at P<;>simp at P
     ·exact(HW (by simp;omega)).symm
     ·exact(HR (by omega)).symm
    ·rw[HR Q,zX];show Dy (some (AV.v undef,f)) _=_;rw[Cb,UV];rw[HR (p:=(Tn a l[i]).1.length≠A.length) (by omega)]
   rw[ef,Db (by omega)];exact A1T R hq D Y e j c X fuel (i+1) _ f (by omega) (by omega) b (by omega) s2 (s.trans (M.trans l2 (λ_ _ h=>h.elim) (λ_ _ h=>h)) (λ_ _ h=>h) (λ_ _ h=>h))
  ·rw[Fp (by omega),AZ];rw[List.drop_of_length_le (by omega)]at b;have b:a=B:=b;subst b;exact X H V s
def A93(D:200000<L)(F:GOk (XD A q.cs))(hq:∀p∈q.cs,p.Ok)(wf:Wf H)(k:StAt H r m A)(J:PkS H pv q)(f:q.cs.length<1000)(C:(XD A q.cs).length<60)(c:∀t H',StAt H' r m (XD A q.cs)->PksAt H' t (if(XD A q.cs).length=A.length then[] else dS (XD A q.cs) [])->Lat H H' (λu=>u=m)->K t H'=x0):(r! L (n+83)).call DB [.ptr r 0 0,pv] H K=x0:=by
 obtain⟨dv,cv,rfl,h1,h2,O⟩:=J.at_;rw[SC];unfold JA Dz A3 Ga;have N:([I q.kd,dv,cv]:Is).all AV.one=true:=by
  have a1:=h1.one.2;have a2:=h2.one.2;simp only[oF,l3a,a1,a2];rfl
 rw[DN N];have w1:=AG (x:=.cells true Ay [I q.kd,dv,cv]) wf;have e:∀u y,Ai H u=some y->Ai ((As H,c_ Ay [I q.kd,dv,cv])::H) u=some y:=λu y b=>A7 (wf.lt b) b;have b1:Ai ((As H,c_ Ay [I q.kd,dv,cv])::H) (As H)=some (c_ Ay [I q.kd,dv,cv]):=Ax (by simp);have s:Lat H ((As H,c_ Ay [I q.kd,dv,cv])::H) (λu=>u=m):=Lat.cons _ _ _;generalize ((As H,c_ Ay [I q.kd,dv,cv])::H:Hp)=i at w1 e b1 s;simp only[BE];have c1:=h2.keep (H':=i) λu y _ b=>e u y b;rw[fA,Kd,AF (p:=2) rfl b1 (by simp)];show Bh Ak cv _=_;have w:(AV.v (.bool false))=Bo (decide (A.length≠A.length)):=by simp
 rw[c1.len,w,show(AV.v (.int .i64 0))=I ((0:Nat):Int) from rfl];refine A1T (n:=n+17) (B:=XD A q.cs) (l:=q.cs) (by omega) hq f C w1 (k.keep e) c1 (λj g M=>?_) (L+20) 0 A i (by omega) (by omega) rfl (Mh _) (k.keep e) (Lat.refl _ _);have a:=s.trans M (R:=λu=>u=m) (λ_ _ h=>h) (λ_ _ h=>h);rw[Eh];by_cases he:(XD A q.cs).length=A.length
 ·rw[HW (by simpa using he)];show A1 (Bo true) _ _=_;rw[Cu];rw[Dq he]at c;exact c Av j g (PksAt.pks (ls:=[])) a
 ·rw[HR he];show A1 (Bo false) _ _=_;rw[AZ];rw[CF he]at c;rw[A8I (n:=n) (ex:=[]) (lv:=.v (.slice none 0 0)) F D g.sv (.inl (.inr ⟨rfl,rfl⟩)) (by simp)];exact c _ j g PksAt.pks a
end
end
section
variable{PP:Af->Prop}{F:Option (Nat×AV)->Af}
variable{L n:Nat}
section
variable{H H0 H':Hp}{v pv:AV}{A:ed}{K:KV}{x0:Af}{x:AV}{r m:Nat}{q:Pk}{l:List PC}{p:PC}
def mu1{k:Value}{es:IH}{K:Ru}(h:Ai H r=some (.map false es none))(b:∀F:Option (Nat×AV)->Af,I9 k es F=F none):My (.mp r) k v H K=K (upd H r (.map false (es++[(k,v)]) none)):=by
 have e:My (.mp r) k v H K=IR H r λy=>mF y λes a=>I9 k es λq=>match q with
  |none=>XA4 H r (.map false (es++[(k,v)]) (wB a)) K
  |some (i,_)=>XA4 H r (.map false (es.set i (k,v)) a) K:=rfl
 rw[e,Bp h];show I9 k es _=_;rw[b];show XA4 H r _ K=_;rw[Dg];rfl
abbrev fnR(f:Nat):AV:=.fn (.func f) [] []
abbrev A3s:IH:=[(.int .i64 1,fnR CL),(.int .i64 2,fnR Dw),(.int .i64 3,fnR DB)]
def C2e{F:KV}(wf:Wf H)(k:∀H' t,Ai H' t=some (.map false A3s none)->Lat H H' (λ_=>False)->PP (F (.mp t) H')):
 PP (LN Aa H λa b=>
  Xj .i64 (AV.v (.int .i64 1)) λg=>My a g (AV.fn (.func CL) [] []) b λc=>
  Xj .i64 (AV.v (.int .i64 2)) λh=>My a h (AV.fn (.func Dw) [] []) c λe=>
  Xj .i64 (AV.v (.int .i64 3)) λi=>My a i (AV.fn (.func DB) [] []) e λf=>F a f):=by
 have em:∀(H:Hp)(K:KV),LN Aa H K=K (.mp (As H)) ((As H,.map false [] none)::H):=λH K=>by
  show Io H (λs=>K (.mp s) ((s,.map false [] (mD Aa.d))::H))=_;rw[Ca];rfl
 have kk:∀{z:Int}{F:Value->Af},Xj .i64 (AV.v (.int .i64 z)) F=F (.int .i64 z):=λ{z F}=>r_ rfl;rw[em,kk,mu1 (Ax (by simp)) (λF=>rfl),kk,mu1 (BH (Ax (by simp))) (λF=>rfl),kk,mu1 (BH (BH (Ax (by simp)))) (λF=>rfl)];refine k _ _ (BH (BH (BH (Ax (by simp))))) ⟨λw=>Bj (Bj (Bj (AG w))),by simp only[B4];show As H<=As H+1;omega,λw u y j _=>?_⟩;have:=w.lt j;rw[Ag (by omega),Ag (by omega),Ag (by omega)];exact A7 this j
def C2Z{t:Nat}{k:Int}{F:K2}(h:Ai H t=some (.map false A3s none)):(Xj .i64 (I k) λa=>ZE Aa false (.mp t) a H F)=I9 (.int .i64 k) A3s λf=>match f with|none=>F Aa.zero|some (_,v)=>F v:=by
 show ZE Aa false (.mp t) (.int .i64 k) H F=_;show IR H t _=_;rw[Bp h];show I9 _ A3s _=_
 congr 1
 funext f
 cases f with
 |none=>rfl
 |some p=>obtain⟨_,_⟩:=p;rfl
def C3g:I9 (.int .i64 1) A3s F=F (some (0,fnR CL)):=by kernel_rfl
def C5k:I9 (.int .i64 2) A3s F=F (some (1,fnR Dw)):=by kernel_rfl
def C5j:I9 (.int .i64 3) A3s F=F (some (2,fnR DB)):=by kernel_rfl
def B2P{f:Nat}{ws:Is}{N:Nat}(h1:(E (L+20)).imp f=true)(h2:(E (L+20)).ne f=false):C4 (E (L+20)) (rt (L+20) N) (fnR f) ws H K=(rt (L+20) N).call f ws H K:=by
 show SX ws [] (λa=>SX [] a λall=>A24 ((E (L+20)).ne f) all H K (@Bool.rec (λ_=>Af) (zpm (E (L+20)) f (rt (L+20) N) all H λv=>K v H) ((rt (L+20) N).call f all H K) ((E (L+20)).imp f)))=_;rw[Jx,Jx,h1,h2];show(rt (L+20) N).call f (ws++[]) H K=_;rw[V0]
def UZ(M:200000<L)(hg:GOk A)(hq:∀p∈q.cs,p.Ok)(wf:Wf H)(hs:StAt H r m A)(hp:PkS H pv q)(N:q.ds.length<1000)(hd:q.kd=1->q.ds.length<=40)(B:q.cs.length<1000)(b:GOk (L4 A q).1)(k:(L4 A q).1.length<60)(e:∀v' H',StAt H' r m (L4 A q).1->PksAt H' v' (L4 A q).2->Lat H H' (λu=>u=m)->K v' H'=x0):(r! L (n+84)).call BO [.ptr r 0 0,pv] H K=x0:=by
 obtain⟨d,cv,rfl,h1,h2,J⟩:=id hp.at_;rw[KK];unfold Gp Dz FQ A3 Kn;have o3:([I q.kd,d,cv]:Is).all AV.one=true:=by
  have a1:=h1.one.2;have a2:=h2.one.2;simp only[oF,l3a,a1,a2];rfl
 rw[DN o3];have w1:=AG (x:=.cells true Ay [I q.kd,d,cv]) wf;have Y:∀u y,Ai H u=some y->Ai ((As H,c_ Ay [I q.kd,d,cv])::H) u=some y:=λu y f=>A7 (wf.lt f) f;have b1:Ai ((As H,c_ Ay [I q.kd,d,cv])::H) (As H)=some (c_ Ay [I q.kd,d,cv]):=Ax (by simp);have V:Lat H ((As H,c_ Ay [I q.kd,d,cv])::H) (λu=>u=m):=Lat.cons _ _ _;generalize P:As H=r1 at b1;have:((r1,c_ Ay [I q.kd,d,cv])::H:Hp)=(As H,c_ Ay [I q.kd,d,cv])::H:=by rw[P]
 rw[this]at b1⊢;clear this;generalize ((As H,c_ Ay [I q.kd,d,cv])::H:Hp)=H1 at w1 Y b1 V;have Z:=hs.keep Y;have p1:=hp.keep Y;have ld:∀{j:Hp}{F:K2},Ai j r1=some (c_ Ay [I q.kd,d,cv])->AD A5 (.ptr r1 0 0) j F=F (.agg [I q.kd,d,cv]):=λ{j F}h=>Bu rfl rfl h;rw[Z.sv.nn];simp only[gT,ld b1,Cb];rw[A5j (n:=n+79) (by omega) p1.pk N B];simp only[Cb,Eh,RC];by_cases s:q.Right
 ·rw[@decide_eq_true _ (_) s];show A1 (Bo false) _ _=_;rw[AZ];refine C2e (PP:=λa=>a=x0) w1 λj t ht X=>?_;have Q:∀u y,Ai H1 u=some y->Ai j u=some y:=λu y f=>X.keep w1 u y f id;have b2:=Q _ _ b1;have C:=Z.keep Q;have p2:=p1.keep Q;have D:=X.wf w1;have g:=V.trans X (R:=λu=>u=m) (λ_ _ h=>h) (λ_ _ h=>h.elim);rw[fA,Kd];have lk:∀{F:K2},AD Ab (.ptr r1 0 0) j F=F (I q.kd):=λ{F}=>AF (p:=0) rfl b2 (by simp);rw[lk,C2Z ht];simp only[ld b2];have c:q.kd=1\/q.kd=2\/q.kd=3:=by
   obtain⟨_,_,_,h⟩:=s;rcases h with⟨_,h|h⟩|⟨_,h⟩
   ·exact .inl h
   ·exact .inr (.inl h)
   ·exact .inr (.inr h)
  unfold L4 at e b k;rw[@if_pos _ (_) s]at e b k;rcases c with c|c|c
  ·rw[Dq c]at e b k;rw[c,C3g,<-c];show C4 (E (L+20)) (r! L (n+83)) (fnR CL) _ _ _=_;rw[B2P rfl rfl];refine A90 (n:=n) hg M D C p2 (hd c) λw i=>?_;exact e _ w (C.keep λu y f=>i.keep D u y f id) PksAt.pks (g.trans i (λ_ _ h=>h) (λ_ _ h=>h.elim))
  ·have hn:¬q.kd=1:=by omega
   rw[CF hn,Dq c]at e b k;rw[c,C5k,<-c];show C4 (E (L+20)) (r! L (n+83)) (fnR Dw) _ _ _=_;rw[B2P rfl rfl];refine A6F (n:=n) hg M D C p2 s.1 λv3 w J i=>?_;exact e _ w (C.keep λu y f=>i.keep D u y f id) J (g.trans i (λ_ _ h=>h) (λ_ _ h=>h.elim))
  ·have hn:¬q.kd=1:=by omega
   have O:¬q.kd=2:=by omega
   rw[CF hn,CF O]at e b k;rw[c,C5j,<-c];show C4 (E (L+20)) (r! L (n+83)) (fnR DB) _ _ _=_;rw[B2P rfl rfl];refine A93 (n:=n) M b hq D C p2 B k λv3 w s3 J i=>?_;exact e _ w s3 J (g.trans i (λ_ _ h=>h) (λ_ _ h=>h))
 ·rw[@decide_eq_false _ (_) s];show A1 (Bo true) _ _=_;rw[Cu];unfold L4 at e;rw[@if_neg _ (_) s]at e;exact e _ H1 Z (PksAt.pks (ls:=[])) V
def A5k(Q:200000<L)(X:GOk A)(d:q.Right)(e:q.kd=1)(wf:Wf H)(Y:StAt H r m A)(w:PkS H pv q)(V:q.ds.length<=40)(g:∀H',StAt H' r m A->Lat H H' (λu=>u=m)->PP (K (xL (L4 A q).2) H')):PP ((r! L (n+84)).call BO [.ptr r 0 0,pv] H K):=by
 obtain⟨a,cv,rfl,h1,h2,h3⟩:=id w.at_;rw[KK];unfold Gp Dz FQ A3 Kn;have o3:([I q.kd,a,cv]:Is).all AV.one=true:=by
  have a1:=h1.one.2;have a2:=h2.one.2;simp only[oF,l3a,a1,a2];rfl
 rw[DN o3];have w1:=AG (x:=.cells true Ay [I q.kd,a,cv]) wf;have s:∀u y,Ai H u=some y->Ai ((As H,c_ Ay [I q.kd,a,cv])::H) u=some y:=λu y c=>A7 (wf.lt c) c;have b1:Ai ((As H,c_ Ay [I q.kd,a,cv])::H) (As H)=some (c_ Ay [I q.kd,a,cv]):=Ax (by simp);have B:Lat H ((As H,c_ Ay [I q.kd,a,cv])::H) (λu=>u=m):=Lat.cons _ _ _;generalize f:As H=r1 at b1;have:((r1,c_ Ay [I q.kd,a,cv])::H:Hp)=(As H,c_ Ay [I q.kd,a,cv])::H:=by rw[f]
 rw[this]at b1⊢;clear this;generalize ((As H,c_ Ay [I q.kd,a,cv])::H:Hp)=O at w1 s b1 B;have J:=Y.keep s;have p1:=w.keep s;have D:∀{b:Hp}{F:K2},Ai b r1=some (c_ Ay [I q.kd,a,cv])->AD A5 (.ptr r1 0 0) b F=F (.agg [I q.kd,a,cv]):=λ{b F}h=>Bu rfl rfl h;rw[J.sv.nn];simp only[gT,D b1,Cb];rw[A5j (n:=n+79) (by omega) p1.pk (by omega) (by have:=d.2.1;omega)];simp only[Cb,Eh,RC];rw[@decide_eq_true _ (_) d];show PP (A1 (Bo false) _ _);rw[AZ];refine C2e w1 λb t Z k=>?_;have i:∀u y,Ai O u=some y->Ai b u=some y:=λu y c=>k.keep w1 u y c id;have b2:=i _ _ b1;have M:=J.keep i;have p2:=p1.keep i;have N:=k.wf w1;have j:=B.trans k (R:=λu=>u=m) (λ_ _ h=>h) (λ_ _ h=>h.elim);rw[fA,Kd];have lk:∀{F:K2},AD Ab (.ptr r1 0 0) b F=F (I q.kd):=λ{F}=>AF (p:=0) rfl b2 (by simp);rw[lk,C2Z Z];simp only[D b2];unfold L4 at g;rw[@if_pos _ (_) d,Dq e]at g;rw[e,C3g,<-e];show PP (C4 (E (L+20)) (r! L (n+83)) (fnR CL) _ _ _);rw[B2P rfl rfl];refine A0L (n:=n) X Q N M p2 V λP C=>?_;exact g P (M.keep λu y c=>C.keep N u y c id) (j.trans C (λ_ _ h=>h) (λ_ _ h=>h.elim))
end
end
section
variable{w:AV}{H0:Hp}
variable{L n:Nat}
section
variable{gs A:ed}{H:Hp}{K:KV}{x x0:AV}
abbrev iP(gs:ed):AV:=.fn (.func Do) [] [.iptr [gV gs]]
def B0T{r0 s e0 it:Nat}{q0:Bool}{c6 w:AV}{r:Ru}{ks:List AR}(M:VS 6 w w=true)(q:ks.length<1000000)(i:∀l v H,l.Perm ks->(l=[]->v=Av)->Coll H0 r0 s q0 e0 c6 l v H->r H=some (w,[]))(c:it≠r0/\it≠s/\As H0<=it):
 ∀(f:Nat)(es:List (AR×Cd))(l:List AR)(v:AV)(H:Hp)(o:Option (Value×AV)),es.length<f->(l++es.map Prod.fst).Perm ks->(l=[]->v=Av)->Coll H0 r0 s q0 e0 c6 l v H->¬A9 v it->Ai H it=some (.iter (Di DX es) o)->
 B6 (L+20) (r! L (n+1)) K r f (.yl s) (.it it) H=some (w,[]):=by
 intro f
 induction f with
 |zero=>intro es l v H o h;omega
 |succ f ih=>
  intro es l v H o D m C hc hv p;rw[Fo];unfold Cn;refine YD (f:=DX) M p (λe=>?_) (λa e b he=>?_)
  ·subst e;rw[GX,AZ];exact i l v H (by simpa using m) C hc
  ·subst he;have g:=hc.it (.iter (Di DX (a++b)) (some (.string ⟨⟨e.1⟩⟩,DX e.2))) c hv;have d:=LC (es:=Di DX (a++b)) (o:=some (.string ⟨⟨e.1⟩⟩,DX e.2)) p;have k:(l++(a++e::b).map Prod.fst).length=ks.length:=m.length_eq;simp at k;have u:tS (.string ⟨⟨e.1⟩⟩)=S e.1:=rfl;rw[GX,Cu,NM d,GX,u];refine N! g (by omega) λN t j F hr=>?_;rw[Eh];show A1 (.v (.bool false)) _ _=_;rw[AZ];refine ih (a++b) (l++[e.1]) N t _ (by simp at D⊢;omega) ?_ (by simp) j (λJ=>?_) (F it _ c.1 c.2.1 hv d)
   ·refine List.Perm.trans ?_ m;simp only[Z6,XI,fQ];refine List.Perm.append_left l ?_;show(e.1::(a.map Prod.fst++b.map Prod.fst)).Perm _;exact List.perm_middle.symm
   ·have y:=hr it J;have B:=g.wf.lt d;rw[B4]at y B;omega
def A3g(C:VS 6 w w=true)(M:gs.length<=100)(J:100<L)(wf:Wf H0)(D:∀l v H,l.Perm (gs.map Cd.id)->(l=[]->v=Av)->NewSl H0 l v H->K v H=some (w,[])):
 (r! L (n+4)).call EJ [iP gs] H0 K=some (w,[]):=by
 rw[GE];unfold EI;rw[DE];unfold C8;simp only[BE];rw[nI (by rfl),Wb,Fy];unfold Cr;simp only[BE];have w1:=AG (x:=.cells true A8 [Av]) wf;have c:=Ax (H:=H0) (x:=.cells true A8 [Av]) (by simp);have t:As ((As H0,c_ A8 [Av])::H0)=As H0+1:=rfl;have i:Wf ((As H0+1,NW (.ptr (As H0) 0 0) (iP gs) (some none))::(As H0,c_ A8 [Av])::H0):=AG (x:=NW (.ptr (As H0) 0 0) (iP gs) (some none)) w1;have e:Ai ((As H0+1,NW (.ptr (As H0) 0 0) (iP gs) (some none))::(As H0,c_ A8 [Av])::H0) (As H0+1)=some (NW (.ptr (As H0) 0 0) (iP gs) (some none)):=Ax (H:=((As H0,c_ A8 [Av])::H0)) (x:=NW (.ptr (As H0) 0 0) (iP gs) (some none)) (by simp[NW]);have ol:∀u y,Ai H0 u=some y->Ai ((As H0+1,NW (.ptr (As H0) 0 0) (iP gs) (some none))::(As H0,c_ A8 [Av])::H0) u=some y:=λu y a=>by
  have a1:=A7 (x:=.cells true A8 [Av]) (wf.lt a) a;exact A7 (w1.lt a1) a1
 have k:∀{H:Hp}{K:K2},AD Aj (.iptr [gV gs]) H K=K (gV gs):=λ{H K}=>Ny rfl;rw[k,Xv];have d:Ai ((As H0+1,NW (.ptr (As H0) 0 0) (iP gs) (some none))::(As H0,c_ A8 [Av])::H0) (As H0)=some (c_ A8 [Av]):=A7 (w1.lt c) c;show B6 (L+20) (r! L (n+1)) _ _ (L+20) (.yl (As H0+1)) (.it (As ((As H0+1,NW (.ptr (As H0) 0 0) (iP gs) (some none))::(As H0,c_ A8 [Av])::H0))) ((As ((As H0+1,NW (.ptr (As H0) 0 0) (iP gs) (some none))::(As H0,c_ A8 [Av])::H0),.iter (Di DX (gE gs)) none)::((As H0+1,NW (.ptr (As H0) 0 0) (iP gs) (some none))::(As H0,c_ A8 [Av])::H0))=_;generalize f:((As H0+1,NW (.ptr (As H0) 0 0) (iP gs) (some none))::(As H0,c_ A8 [Av])::H0:Hp)=b at i e ol d;have r:As b=As H0+2:=by rw[<-f];rfl
 have F:=AG (x:=.iter (Di DX (gE gs)) none) i;have up:∀u y,Ai b u=some y->Ai ((As b,Row.iter (Di DX (gE gs)) none)::b) u=some y:=λu y j=>A7 (i.lt j) j;have g:Ai ((As b,Row.iter (Di DX (gE gs)) none)::b) (As b)=some (.iter (Di DX (gE gs)) none):=Ax (by simp);have q:(gE gs).length=gs.length:=by simp[gE]
 refine B0T (n:=n) (H0:=H0) (r0:=As H0) (s:=As H0+1) (it:=As b) (q0:=true) (e0:=A8) (c6:=iP gs) (ks:=gs.map Cd.id) C (by rw[UH];omega) ?_ (by omega) (L+20) (gE gs) [] Av _ none (by omega) (by rw[l3b,Xm]) (λ_=>rfl)
  ⟨up _ _ d,.inl ⟨rfl,rfl,rfl⟩,up _ _ e,λu ⟨_,_,_,h⟩=>(by cases h),F,λu y a=>up u y (ol u y a),by omega,by omega,by omega,wf⟩ (λ⟨_,_,_,h⟩=>(by cases h)) g
 intro l v H B m hc;show IR H (As H0+1) _=_;rw[Bp hc.lp];show XA4 H (As H0+1) .gone _=_;rw[Dg];have hr:Ai (upd H (As H0+1) .gone) (As H0)=some (c_ A8 [v]):=by rw[Ag (by omega)];exact hc.at_
 show AD Ac (.ptr (As H0) 0 0) (upd H (As H0+1) .gone) _=_;rw[AF (p:=0) rfl hr (by simp)];refine D _ _ _ B m ⟨?_,λu a=>(hc.new u a).2.2,Bj hc.wf,λu y a=>?_,?_⟩
 ·exact hc.sl.lat hc.wf (Lat.upd H _ _ (P:=λu=>u=As H0+1) rfl) (λu a=>(hc.new u a).2.1)
 ·have:=wf.lt a;rw[Ag (by omega)];exact hc.keep u y a
 ·rw[B4];have:=hc.wf.lt hc.at_;omega
def B3c{K:K2}:Ap (r! L (n+5)) C6 [gV gs] H0 K=K (iP gs):=by
 refine KG (λK a=>?_) (Ao (q:=false) iY AH);rw[show n+5=(n+4)+1 from rfl,FZ];unfold C5 Ih;rw[vT];exact a _ _ ⟨true,λK=>by kernel_rfl⟩
def B2m(d:GOk A):(T2 A).Perm (I4 A):=by
 have hn:=Xx (S:=A) d.ids;have hm:((T2 A).map Cd.id).Nodup:=by rw[wF d.ids];exact(Su (gs:=I4 A)).1.nd
 exact(l35 (List.Pairwise.of_map Cd.id (λa b h e=>h (congrArg Cd.id e)) hm) (List.Pairwise.of_map Cd.id (λa b h e=>h (congrArg Cd.id e)) hn)).2 λc=>A2F d.ids
def C0f{D:Nat}{ps:List AR}:Fx true (D+3) (DD ps) (DD ps) H false:=by cases ps<;>exact λK=>by kernel_rfl
def A0K(a:GOk A)(i:200000<L){w:AV×Hp}(h:∀H,K (.agg [I 1,DD (Jw (I4 A)),Av]) H=some w):(r! L (n+83)).call Dl [.iptr [.imap (Di DX (gE A))]] [] K=some w:=by
 rw[SD];unfold JB Ih;have e:∀{H:Hp},rP H (.iptr [.imap (Di DX (gE A))]) A:=λ{H}=>.inl rfl;have f:∀{F:KV},Bx Ay A5 [] F=F (.ptr 0 0 0) [(0,c_ Ay [I 0,Av,Av])]:=λ{F}=>B1 (cs:=[I 0,Av,Av]) rfl;rw[f,(e (H:=[(0,c_ Ay [I 0,Av,Av])])).nn,AZ,A0U (n:=n) a i e];have d:=B2m a;have b:=A4L a d;have j:∀{H:Hp}{F:K2},Ap (r! L (n+82)) UM [eP (T2 A)] H F=F (DD (Jw (I4 A))):=λ{H F}=>by
  rw[AP (B3e (L:=L) (n:=n+2) b (by omega) (λc hc=>by have:=Xz (b.ok c hc);omega) (Rp _)) (Ao ((Rp _).fx H) AH),A4e (Xx a.ids) d]
 rw[j];have g:∀{F:K2},BP A5 [(0,1,(AV.v (.int .i64 1))),(1,1,DD (Jw (I4 A)))] F=F (.agg [I 1,DD (Jw (I4 A)),Av]):=λ{F}=>by
  cases Jw (I4 A)<;>kernel_rfl
 have m:([I 1,DD (Jw (I4 A)),Av]:Is).all AV.one=true:=by
  cases Jw (I4 A)<;>rfl
 rw[g,BX (cs:=[I 0,Av,Av]) (vs:=[I 1,DD (Jw (I4 A)),Av]) rfl rfl rfl m];have k:Ai (upd [(0,c_ Ay [I 0,Av,Av])] 0 (c_ Ay [I 1,DD (Jw (I4 A)),Av])) 0=some (c_ Ay [I 1,DD (Jw (I4 A)),Av]):=BH (x:=.cells true Ay [I 0,Av,Av]) rfl;rw[Bu rfl rfl k];exact h _
def B3d(g:GOk A)(f:200000<L)(k:rP H x A){F:K2}:JR (r! L (n+83)) Dl [x] H F=F (.agg [I 1,DD (Jw (I4 A)),Av]):=by
 rcases k with rfl|⟨r,m,rfl,h1,h2⟩
 ·show Ap (r! L (n+83)) Dl [.iptr [.imap (Di DX (gE A))]] H F=_;exact CT.z (λK i=>A0K g f λH=>i _ H ⟨false,LF (D:=11) (Ao (q:=false) CC (Ao (q:=false) (C0f (D:=8)) (Ao (q:=false) CC AH)))⟩) (Ao (q:=false) Rq AH)
 ·have e:JR (r! L (n+83)) Dl [.ptr r 0 0] H F=IR H r λx=>gM x λq _ cs=>match q,cs with
   |true,[.mp m]=>IR H m λy=>qG y λb=>ck (b.all λp=>fB 3 p.2) (Au ((r! L (n+83)).call Dl [.iptr [.imap b]] [] λv c=>NI c depth v λd=>some (d,[])) F)
   |_,_=>none:=rfl
  rw[e,Bp h1];show(IR H m λy=>qG y λb=>ck (b.all λp=>fB 3 p.2) (Au ((r! L (n+83)).call Dl [.iptr [.imap b]] [] λv c=>NI c depth v λd=>some (d,[])) F))=_;rw[Bp h2];show ck ((Di DX (gE A)).all λp=>fB 3 p.2) _=_;rw[B28,A0K (w:=(.agg [I 1,DD (Jw (I4 A)),Av],[])) g f λH=>?_]
  ·rfl
  ·rw[show depth=11+1 from rfl];have h:∀F:K2,NI H (11+1) (.agg [I 1,DD (Jw (I4 A)),Av]) F=SO (NI H 11) [I 1,DD (Jw (I4 A)),Av] λl=>F (.agg l):=λF=>rfl;rw[h,B0J];have:=kS (q:=SW) (λ_=>rfl) (Jw (I4 A));cases j:Jw (I4 A) with
   |nil=>rfl
   |cons a l=>
    rw[j]at this;show(fl1 (I 1)&&((AE (a::l)).all SW&&(fl1 Av&&true)))=true;rw[this];rfl
end
end
section
variable{L n:Nat}
section
variable{gs A out:ed}{H:Hp}{K:KV}{x w:AV}
def A5g{s:AR}:CS (r! L (n+2)) Fc [S s,.iptr [.imap (Di DX (gE out))]] (Bo (decide (s∈out.map Cd.id))):=by
 intro K d;rw[O9];unfold GU LR;have c:∀{F:K2},AD Aj (.iptr [.imap (Di DX (gE out))]) [] F=F (.imap (Di DX (gE out))):=λ{F}=>Ny rfl;rw[c];refine A45 (b:=gE out) (F:=λe _ a=>K e a) (λK=>r_ rfl) λf _=>?_;rw[iZ];exact d _ _ λb=>⟨false,CC⟩
def UX(A:ed):AV:=if A=[] then Av else Ls (Yi A)
def A8H:SA (Yi A) (UX A):=by
 unfold UX;by_cases h:A=[]
 ·rw[Dq h];subst h;exact .inr ⟨by simp[Yi,Et],rfl⟩
 ·rw[CF h];exact .inl rfl
def B2W(hn:(A.map Cd.id).Nodup)(b:out.Perm (I4 A)):(Et (A.map Cd.id)).filter (λs=>!decide (s∈out.map Cd.id))=Yi A:=by
 refine IF ?_ ((DR _).filter _) (DR _);refine List.Perm.trans ?_ (Bq _).symm;refine((Bq _).filter _).trans ?_;have e:(A.map Cd.id).filter (λs=>!decide (s∈out.map Cd.id))=(A.map Cd.id).filter λx=>@decide (¬Cmp A x) (Classical.propDecidable _):=by
  refine List.filter_congr λs c=>?_;have hc:s∈out.map Cd.id↔Cmp A s:=by rw[(b.map _).mem_iff];exact VM
  by_cases h:Cmp A s
  ·rw[HR (hc.2 h),@decide_eq_false _ (_) (λa=>a h)];rfl
  ·rw[HW (λa=>h (hc.1 a)),@decide_eq_true _ (_) h];rfl
 rw[e]
def C2u{l:List AR}{r:Nat}{q:Bool}{tl:Is}{D:Nat}{b:Bool}(h2:Ai H r=some (.cells q Aq (AE l++tl))):Fx b (D+1) (.sl 1 r 0 l.length) (Ls l) H true:=by
 refine Xn (q':=false) h2 (by rw[EK,Bc];omega) ?_;have:((AE l++tl).drop 0).take (l.length*1)=AE l:=by
  rw[rB,qZ];have:=List.take_left (l₁:=AE l) (l₂:=tl);rw[Bc]at this;exact this
 rw[this];exact VD l
def B2X(Q:VS 6 w w=true)(C:GOk A)(Y:200000<L)(N:∀v H,(∀b,∃q,Fx b depth v (UX A) H q)->K v H=some (w,[])):
 (r! L (n+83)).call Ck [.iptr [.imap (Di DX (gE A))]] [] K=some (w,[]):=by
 rw[QM];unfold IW Dz;have hx:rP [] (.iptr [.imap (Di DX (gE A))]) A:=.inl rfl;rw[hx.nn,AZ];refine sM (n:=n+78) Q C (by omega) FH λout m c hp hm _ w1 _ n1=>?_;rw[A2q (v:=.map none) rfl];have w2:=AG (x:=.cells true Az [.v (.map none)]) w1;have b2:Ai ((As c,c_ Az [.v (.map none)])::c) (As c)=some (c_ Az [.v (.map none)]):=Ax (by simp);rw[D6 (cs:=[.v (.map none)]) b2 (by simp) rfl rfl rfl];have m2:=A7 (x:=.cells true Az [.v (.map none)]) (w1.lt hm) hm;have p:=Bj (r:=As c) (y:=.cells true Az ([AV.v (.map none)].set 0 (.mp m))) w2;have B:Ai (upd ((As c,c_ Az [.v (.map none)])::c) (As c) (c_ Az ([AV.v (.map none)].set 0 (.mp m)))) (As c)=some (c_ Az [.mp m]):=BH b2;have m3:Ai (upd ((As c,c_ Az [.v (.map none)])::c) (As c) (c_ Az ([AV.v (.map none)].set 0 (.mp m)))) m=some (.map false (Di DX (gE out)) none):=by
  rw[Ag (by have:=w1.lt hm;omega)];exact m2
 generalize hb:As c=b at B m3;rw[hb]at p;generalize upd ((b,c_ Az [.v (.map none)])::c) b (c_ Az ([AV.v (.map none)].set 0 (.mp m)))=J at p B m3⊢;rw[A0C,B3c (n:=n+77),Hi];unfold Fa;have Z:=C.len;refine A3g (n:=n+77) Q (by omega) (by omega) p λl v H4 d M hc=>?_;refine A39 (n:=n+77) p (by rw[d.length_eq,UH];omega) M hc λV a=>?_;have e:Et l=Et (A.map Cd.id):=IF ((Bq l).trans (d.trans (Bq _).symm)) (DR l) (DR _);rw[e]at a;have j:∀u,A9 v u->As J<=u:=a.new;have g:∀(D:Nat){f},Lat V f (A9 v)->Fx true (D+5) (.ptr b 0 0) (.iptr [.imap (Di DX (gE out))]) f true:=λD{f}k=>by
  have kk:∀u y,Ai J u=some y->Ai f u=some y:=λu y O=>k.keep a.wf u y (a.keep u y O) λhh=>by have:=j u hh;have:=p.lt O;omega
  exact Xo (D:=D+4) (kk _ _ B) (Ao (q:=true) (q':=false) (A4f (D:=D) (kk _ _ m3)) AH)
 refine A97 (n:=n+80) (P:=λs=>decide (s∈out.map Cd.id)) a.wf a.sl.rq (by rw[(Bq _).length_eq,UH];omega) Y ⟨.fn (.func Fc) [] [.iptr [.imap (Di DX (gE out))]],_,zY (D:=11) (Ao (g 6 (Lat.refl _ _)) AH),λs K=>?_⟩ (λf R s K=>?_) λv' f F i R=>?_
 ·rw[I' rfl rfl];exact AP (A5g (n:=n+78)) (Ao (q:=false) CC (Ao (q:=false) Rq AH))
 ·rw[I' rfl rfl];exact AP (A5g (n:=n+79)) (Ao (q:=false) CC (Ao (g 7 R) AH))
 ·rw[B2W C.ids hp]at F;by_cases t:A=[]
  ·have hv:v=Av:=M (by subst t;exact mH (by rw[d.length_eq];rfl));rcases F with⟨rfl,h⟩|⟨r,q,tl,rfl,h⟩
   ·refine N _ _ λb=>⟨false,?_⟩
    unfold UX;rw[Dq t];exact CC
   ·have:=(i r).1 ⟨_,_,_,rfl⟩;rw[hv]at this;obtain⟨_,_,_,h⟩:=this;cases h
  ·rcases F with⟨rfl,h⟩|X
   ·rcases a.sl with⟨rfl,h1,h2⟩|⟨r,q,rfl,h2,_⟩
    ·have:(Et (A.map Cd.id)).length=A.length:=by rw[(Bq _).length_eq,UH]
     exact absurd (mH (by omega)) t
    ·have:=(i r).2 ⟨_,_,_,rfl⟩;obtain⟨_,_,_,h⟩:=this;cases h
   ·obtain⟨r,q',tl,rfl,h⟩:=X;refine N _ _ λb=>⟨true,?_⟩
    unfold UX;rw[CF t];exact C2u h
def A8G:pl 6 (UX A)=true:=by
 unfold UX;by_cases h:A=[]
 ·rw[Dq h];rfl
 ·rw[CF h];exact kS (q:=pl 5) (λ_=>rfl) _
def Zq(d:GOk A)(c:200000<L)(e:rP H x A){F:K2}:Ap (r! L (n+83)) Ck [x] H F=F (UX A):=by
 obtain⟨q1,a⟩:=e.fx (D:=7);exact AP (λK b=>B2X (Tk 6 _ A8G) d c b) (Ao a AH)
end
end
section
variable{L n:Nat}
def A2v(z:Int)(i:Nat):Bool:=decide (((pk z 1048576).fdiv (2^i)).tmod 2=1)
def Mp(z:Int):Nat->ed->ed
 |_,[]=>[]
 |i,c::l=>if A2v z i then c::Mp z (i+1) l else Mp z (i+1) l
def Wo{z:Int}{i:Nat}{c:Cd}{l:ed}:Mp z i (c::l)=if A2v z i then c::Mp z (i+1) l else Mp z (i+1) l:=rfl
def zK{z:Int}{l:ed}:∀{i:Nat},(Mp z i l).Sublist l:=by
 induction l with
 |nil=>intro i;exact List.Sublist.refl _
 |cons c l ih=>
  intro i;unfold Mp;split
  ·exact(ih (i:=i+1)).cons_cons c
  ·exact(ih (i:=i+1)).cons c
section
variable{H H0 H':Hp}{v a:AV}{gs A:ed}{K:KV}{x0:Af}{r m:Nat}{z:Int}
def StAt.kp(h:StAt H r m A)(k:Lat H H' (λ_=>False))(wf:Wf H):StAt H' r m A:=h.keep λu y b=>k.keep wf u y b id
theorem kR{k:KV}(C:40000<L)(f:GOk gs)(hz:J7 z)(s:LA gs a)(N:∀H',StAt H' r m (Mp z 0 gs)->Lat H0 H' (λu=>u=m)->k (.ptr r 0 0) H'=x0):
 ∀(fuel i:Nat)(b:ed)(H:Hp),gs.length<fuel+i->i<=gs.length->b++Mp z i (gs.drop i)=Mp z 0 gs->(∀c∈b,c∈gs.take i)->b.length<=i->Wf H->StAt H r m b->Lat H0 H (λu=>u=m)->
  QP (L+20) (r! L (n+66)) K k fuel a (I z) (.ptr r 0 0) (I i) H=x0
 |0,i,b,H,h1,h2,_,_,_,_,_,_=>by omega
 |fuel+1,i,b,H,h1,h2,d,B,Z,wf,t,D=>by
  rw[iL];unfold QQ Dk A3 Ga;have X:=f.len;rw[s.len];by_cases g:i<gs.length
  ·rw[Fz (by omega),Cu];have Y:∀{H:Hp}{F:K2},Ap (r! L (n+66)) EE [I z,(AV.v (.int .i64 1048576))] H F=F (I (pk z 1048576)):=λ{H F}=>(gZ (n:=n+65) hz (by decide) (by decide)) H F;have q:∀{F:K2},Ar Ab .rem (I ((pk z 1048576).fdiv (2^i))) (AV.v (.int .i64 2)) F=F (I (((pk z 1048576).fdiv (2^i)).tmod 2)):=λ{F}=>Q9 (by decide);rw[Y,A9r (by omega),q,Cl];have O:gs.drop i=gs[i]::gs.drop (i+1):=uZ g;rw[O]at d;rw[Wo]at d;by_cases hb:((pk z 1048576).fdiv (2^i)).tmod 2=1
   ·have e:A2v z i=true:=HR hb;rw[Dq e]at d;simp only[HR hb,gT,Cb,s.ia g,nH];have J:gs[i].id∉b.map Cd.id:=λh=>by
     obtain⟨c,hc,he⟩:=Rc.1 h;have j:=f.ids;rw[<-l38 i gs,Z6,l36]at j;exact j.2.2 _ (List.mem_map_of_mem (B c hc)) _ (List.mem_map_of_mem (by rw[O];exact List.mem_cons_self)) he
    have M:(PC.c gs[i]).Ok:=⟨f.ok _ (Qk g),f.nd _ (Qk g)⟩
    have Q:Tn b (.c gs[i])=(b++[gs[i]],true,0):=wJ J;have put:∀{F:KV},(∀H',StAt H' r m (b++[gs[i]])->Lat H H' (λu=>u=m)->F (I 0) H'=x0)->Dy ((r! L (n+66)).call XA1 [.ptr r 0 0,.agg gs[i].cs] H λv H=>some (v,H)) F=x0:=λ{F}V=>
     A8V (n:=n) (p:=.c gs[i]) (K:=λv H=>some (v,H)) (P:=λa=>Dy a F=x0) C M wf t (by omega) λy x w=>by
      rw[Q]at x⊢;exact V y x w
    refine put λy x w=>?_;have R:∀{F:K2},Ar Ab .neq (I 0) (AV.v (.int .i64 0)) F=F (Bo false):=λ{F}=>by kernel_rfl
    simp only[Cb,R,UV,AZ];rw[Db (by omega)];refine kR C f hz s N fuel (i+1) (b++[gs[i]]) y (by omega) (by omega) (by rw[<-d];simp) (λc hc=>?_) (by simp;omega) (w.wf wf) x (D.trans w (λ_ _ h=>h) (λ_ _ h=>h));rw[oH g];rcases kB.1 hc with hc|hc
    ·exact List.mem_append_left _ (B c hc)
    ·exact List.mem_append_right _ hc
   ·have e:A2v z i=false:=HW hb;rw[e]at d;simp only[HW hb,iW,gU,gT,Cb,RC,UV,AZ];rw[Db (by omega)];refine kR C f hz s N fuel (i+1) b H (by omega) (by omega) (by simpa using d) (λc hc=>?_) (by omega) wf t D;have:=B c hc;rw[oH g];exact List.mem_append_left _ this
  ·rw[Fp (by omega),AZ];rw[List.drop_of_length_le (by omega)]at d;have d:b++[]=Mp z 0 gs:=d;rw[V0]at d;rw[d]at t;exact N H t D
def A0H(f:40000<L)(d:GOk gs)(hz:J7 z)(g:LA gs a)(wf:Wf H)(i:∀r m H',StAt H' r m (Mp z 0 gs)->As H<=m->Lat H H' (λ_=>False)->K (.tup [.ptr r 0 0,Bo true]) H'=x0):
 (r! L (n+67)).call OT [a,I z] H K=x0:=by
 rw[lY];unfold SF A3 Kn Ga;rw[B61 (n:=n+65)];obtain⟨e,w1,k1⟩:=B0z wf;rw[e.sv.nn,AZ];simp only[BE];have j:Lat H ((As H+1,c_ D0 [.mp (As H)])::(As H,.map false [] none)::H) (λu=>u=As H):=⟨λ_=>w1,by show As H<=As H+1+1;omega,λ_ u y b _=>k1 u y b⟩
 have h:=d.len;refine kR (n:=n) (H0:=H) f d hz g (λH' k c=>?_) (L+20) 0 [] _ (by omega) (by omega) rfl (by simp) (by simp) w1 e j;exact i _ _ H' k (Mh _) ⟨c.wf,c.nx,λw u y b _=>c.keep w u y b (by have:=w.lt b;omega)⟩
end
end
end Go.Abs
end
noncomputable section
namespace Go.Proofs
open Go.Abs
set_option maxRecDepth 100000
def Ul:JP Ru Tp:=λL R K e ih c d b a=>Dz 2 c A2 a λf=>Bh A2 f λg=>Ar Ab .lss b g λh=>A1 h (QY 2 c A2 a λi=>Km A2 i b BG a λj=>QY 2 d A2 a λk=>Km A2 k b BG a λl=>Au (R7 TK .neq j l AK) λm=>A1 m (K Ga a) (Ar Ab .add b (A3 1) λn=>ih c d n a)) (e a)
def Uk:JO Ru Tp:=Kg z3N Ul
theorem pF:KD Uk Ul:=λ_ _ _ _ _=>rfl
def WQ:Jc:=λL R a0 a1 H K=>FN Ei a0 H λb k=>FN Ei a1 k λc e=>Dz 0 b A4 e λl=>Dz 0 c A4 e λm=>R7 J4 .neq l m λd=>Qa d e 3 b A4 λn o=>Qa d o 3 c A4 λp f=>FQ d f (R7 J4 .neq n p (CO f)) λq r=>Ch d Kn q λa=>Qa a r 2 b A2 λs g=>FQ a g (Bh A2 s (CO g)) λt u=>Qa a u 2 c A2 λv h=>FQ a h (Bh A2 v (CO h)) λw i=>FQ a i (Ar Ab .neq t w (CO i)) λx j=>Ch a Kn x λy=>A1 y (K Ga j) (jn (λz=>K Kn z) λaa=>jn (λab=>aa ab) λac=>Uk L R K ac L b c (A3 0) j)
theorem uG(L:Nat)(R:Rt)(a0 a1:AV)(H:Hp)(K:KV):H? (E L) (Mq (E L) R) K4 [a0,a1] H K=WQ L R a0 a1 H K:=by kernel_rfl
theorem uH(L n:Nat)(a b:AV)(H:Hp)(K:KV):(rt L (n+1)).call K4 [a,b] H K=WQ L (rt L n) a b H K:=(show _=H? (E L) (Mq (E L) (rt L n)) K4 [a,b] H K from rfl).trans (uG L (rt L n) a b H K)
def Uf:JP Ru Qp:=λL R K e ih c d f b a=>Dz 2 c Aw a λg=>Bh Aw g λh=>Ar Ab .lss b h λi=>A1 i (QY 2 c Aw a λj=>Km Aw j b AM a λk=>QY 2 d Aw a λl=>Km Aw l b AM a λm=>Au (R7 IK .neq k m AK) λn=>A1 n (K Ga a) (Ar Ab .add b (A3 1) λo=>ih c d f o a)) (e a)
def Ud:JO Ru Qp:=Kg qQ Uf
theorem pB:KD Ud Uf:=λ_ _ _ _ _=>rfl
def Ue:JP Tp Qp:=λL R K e ih c d b f a=>Dz 1 c Al a λg=>Bh Al g λh=>Ar Ab .lss b h λi=>A1 i (QY 1 c Al a λj=>Km Al j b A0 a λk=>QY 1 d Al a λl=>Km Al l b A0 a λm=>Au (R7 HN .neq k m AK) λn=>A1 n (K Ga a) (Ar Ab .add b (A3 1) λo=>ih c d o f a)) (e c d b a)
def Uc:JO Tp Qp:=Kg qQ Ue
theorem pA:KD Uc Ue:=λ_ _ _ _ _=>rfl
def W0:Jc:=λL R a0 a1 H K=>FN Cm a0 H λc o=>FN Cm a1 o λd f=>Dz 0 c Ab f λp=>Dz 0 d Ab f λq=>Ar Ab .neq p q λe=>Qa e f 3 c A0 λr s=>Qa e s 3 d A0 λt g=>FQ e g (R7 HN .neq r t (CO g)) λu v=>Ch e Kn u λa=>Qa a v 1 c Al λw h=>FQ a h (Bh Al w (CO h)) λx y=>Qa a y 1 d Al λz i=>FQ a i (Bh Al z (CO i)) λaa j=>FQ a j (Ar Ab .neq x aa (CO j)) λab ac=>Ch a Kn ab λb=>Qa b ac 2 c Aw λad k=>FQ b k (Bh Aw ad (CO k)) λae af=>Qa b af 2 d Aw λag l=>FQ b l (Bh Aw ag (CO l)) λah m=>FQ b m (Ar Ab .neq ae ah (CO m)) λai n=>Ch b Kn ai λaj=>A1 aj (K Ga n) (jn (λak al am an=>jn (λao=>K Kn ao) λap=>jn (λaq=>ap aq) λar=>Ud L R K ar L ak al am (A3 0) an) λau=>jn (λav aw ax ay=>au av aw ax ay) λaz=>Uc L R K az L c d (A3 0) AV.dk n)
theorem uA(L:Nat)(R:Rt)(a0 a1:AV)(H:Hp)(K:KV):H? (E L) (Mq (E L) R) Hn [a0,a1] H K=W0 L R a0 a1 H K:=by kernel_rfl
theorem uB(L n:Nat)(a b:AV)(H:Hp)(K:KV):(rt L (n+1)).call Hn [a,b] H K=W0 L (rt L n) a b H K:=(show _=H? (E L) (Mq (E L) (rt L n)) Hn [a,b] H K from rfl).trans (uA L (rt L n) a b H K)
def Up:JP Ru Tp:=λL R K e ih c d b a=>Bh Ac c λf=>Ar Ab .lss b f λg=>A1 g (Km Ac c b Ah a λh=>Km Ac d b Ah a λi=>Au (Ar Ah .neq h i AK) λj=>A1 j (K Ga a) (Ar Ab .add b (A3 1) λk=>ih c d k a)) (e a)
def Uo:JO Ru Tp:=Kg z3N Up
theorem pH:KD Uo Up:=λ_ _ _ _ _=>rfl
def WS:Jc:=λL R a0 a1 H K=>Bh Ac a0 λa=>Bh Ac a1 λb=>Ar Ab .neq a b λc=>A1 c (K Ga H) (jn (λd=>K Kn d) λe=>jn (λf=>e f) λg=>Uo L R K g L a0 a1 (A3 0) H)
theorem uL(L:Nat)(R:Rt)(a0 a1:AV)(H:Hp)(K:KV):H? (E L) (Mq (E L) R) K6 [a0,a1] H K=WS L R a0 a1 H K:=by kernel_rfl
theorem uM(L n:Nat)(a b:AV)(H:Hp)(K:KV):(rt L (n+1)).call K6 [a,b] H K=WS L (rt L n) a b H K:=(show _=H? (E L) (Mq (E L) (rt L n)) K6 [a,b] H K from rfl).trans (uL L (rt L n) a b H K)
end Go.Proofs
end
noncomputable section
namespace Go.Abs
open Go.RowKit Go.Proofs
set_option maxRecDepth 100000
section
variable{w:AV}{F:K2}{k:Ru}{t:Int×Int}{ks:Hb}{c1 c2 r1 r2:Ha}{u:UD}
variable{L n:Nat}
def C47{ks:List LK}{xs:Hx}(h:fits ks xs=true){K:K2}:R7 ks .eql (.agg (xs.map AV.v)) (.agg (xs.map AV.v)) K=K (Bo true):=by
 rw[qO];exact A2k xs h K
def B1L{ks:List LK}{xs:Hx}(h:fits ks xs=true){K:K2}:R7 ks .neq (.agg (xs.map AV.v)) (.agg (xs.map AV.v)) K=K (Bo false):=by
 have e:R7 ks .neq (.agg (xs.map AV.v)) (.agg (xs.map AV.v)) K=dM (xs.map AV.v) λc=>dM (xs.map AV.v) λd=>ck (fits ks c) (match Yb c d,BinOp.neq with
  |some q,.eql=>bB q K
  |some q,.neq=>bB (!q) K
  |_,_=>none):=rfl
 rw[e,rH,rH,G' h,h];show bB (!true) K=_;rw[NO];rfl
section
variable{H:Hp}{K:K2}{a b:Ha}{x0:Af}
def C41:R7 J4 .neq (.agg [S a,S b]) (.agg [S a,S b]) K=K (Bo false):=B1L (ks:=J4) (xs:=[.string ⟨⟨a⟩⟩,.string ⟨⟨b⟩⟩]) rfl
def C40:R7 TK .neq (.agg (NC t)) (.agg (NC t)) K=K (Bo false):=B1L (ks:=TK) (xs:=[.int .i64 t.1,.string ⟨⟨qn t.2⟩⟩,.string ⟨⟨qd t.2⟩⟩]) rfl
def C42{x:Nd}:R7 IK .neq (.agg x.cs) (.agg x.cs) K=K (Bo false):=
 B1L (ks:=IK) (xs:=[.int .i64 x.op,.string ⟨⟨x.vn⟩⟩,.string ⟨⟨x.vd⟩⟩,.int .i64 x.u.p0,.int .i64 x.u.q0,.int .i64 x.u.p1,.int .i64 x.u.q1,.int .i64 x.u.p2,.int .i64 x.u.q2,.int .i64 x.u.p3,.int .i64 x.u.q3,.int .i64 x.u.p4,.int .i64 x.u.q4,.int .i64 x.u.p5,.int .i64 x.u.q5,.int .i64 x.u.p6,.int .i64 x.u.q6,
  .string ⟨⟨x.u.fn⟩⟩,.string ⟨⟨x.u.fd⟩⟩,.string ⟨⟨x.u.on⟩⟩,.string ⟨⟨x.u.od⟩⟩,.int .i64 x.u.kd,.int .i64 x.u.sc,.int .i64 x.n,.int .i64 x.l,.int .i64 x.r]) rfl
def B6D:R7 HN .neq (.agg (Cx u)) (.agg (Cx u)) K=K (Bo false):=C0D
def C3Z:R7 HN .eql (.agg (Cx u)) (.agg (Cx u)) K=K (Bo true):=by rw[qO];exact jM u K
def C43{r:RD}:R7 HO .eql (.agg r.cs) (.agg r.cs) K=K (Bo true):=
 C47 (ks:=HO) (xs:=[.int .i64 r.k,.string ⟨⟨r.a1⟩⟩,.string ⟨⟨r.a2⟩⟩,.string ⟨⟨r.b1⟩⟩,.string ⟨⟨r.b2⟩⟩,.string ⟨⟨r.c1⟩⟩,.string ⟨⟨r.c2⟩⟩,.string ⟨⟨r.d1⟩⟩,.string ⟨⟨r.d2⟩⟩]) rfl
def C0y:AD BG (.iptr (NC t)) H F=F (.agg (NC t)):=r_ rfl
def neI{z:Int}{ty:TI}:Ar ty .neq (I z) (I z) F=F (Bo false):=by rw[I3,HR rfl];rfl
def eqI{z:Int}{ty:TI}:Ar ty .eql (I z) (I z) F=F (Bo true):=by rw[Cl,HR rfl]
def C12{ty:Nat}{cs:Is}{F:AV->KV}(h1:cs.all AV.one=true)(e:∀a b H,Ai H a=some (c_ ty cs)->Ai H b=some (c_ ty cs)->F (.ptr a 0 0) (.ptr b 0 0) H=x0):
 (FN ty (.agg cs) [] λv1 c=>FN ty (.agg cs) c λf d=>F v1 f d)=x0:=by
 rw[DN h1,DN h1];exact e _ _ _ (A7 (H:=[(As [],c_ ty cs)]) (Nat.lt_succ_self _) (Ax (by simp))) (Ax (by simp))
end
section
variable{H:Hp}{K:KV}{x0:Af}{a b:Nat}
theorem B6b{t:Nat}{ts:dQ}(e:ts.length<1000)(c:Ai H a=some (c_ t [S c1,S c2,E4 ts,S r1,S r2]))(hb:Ai H b=some (c_ t [S c1,S c2,E4 ts,S r1,S r2]))(d:k H=x0):
 ∀(fuel i:Nat),ts.length<fuel+i->i<=ts.length->Uk (L+20) (r! L n) K k fuel (.ptr a 0 0) (.ptr b 0 0) (I i) H=x0
 |0,i,h1,h2=>by omega
 |fuel+1,i,h1,h2=>by
  rw[pF];unfold Ul Dz QY Km A3 Ga;have f:∀{F:K2},AD A2 (.ptr a 2 0) H F=F (E4 ts):=λ{F}=>AF (p:=2) rfl c (by show 2<5;decide);have g:∀{F:K2},AD A2 (.ptr b 2 0) H F=F (E4 ts):=λ{F}=>AF (p:=2) rfl hb (by show 2<5;decide);simp only[Po,f,g,Bw,MP];by_cases h:i<ts.length
  ·rw[Fz (by omega),Cu];simp only[TM h,C0y,C40,Bw];rw[AZ,Db (by omega)];exact B6b e c hb d fuel (i+1) (by omega) (by omega)
  ·rw[Fp (by omega),AZ];exact d
def B4u{ts:dQ}(f:ts.length<1000)(m:1000<L):CS (r! L (n+1)) K4 [.agg [S c1,S c2,E4 ts,S r1,S r2],.agg [S c1,S c2,E4 ts,S r1,S r2]] (Bo true):=by
 intro K e;rw[uH];unfold WQ Dz Qa FQ A3 Kn Ga;refine C12 (by cases ts<;>rfl) λa b H c hb=>?_;have g:∀{F:K2},AD A2 (.ptr a 2 0) H F=F (E4 ts):=λ{F}=>AF (p:=2) rfl c (by show 2<5;decide);have h:∀{F:K2},AD A2 (.ptr b 2 0) H F=F (E4 ts):=λ{F}=>AF (p:=2) rfl hb (by show 2<5;decide);have d:∀{F:K2},AD A4 (.ptr a 0 0) H F=F (.agg [S c1,S c2]):=λ{F}=>D7 rfl c (by show 0+2<=5;decide);have cb:∀{F:K2},AD A4 (.ptr b 0 0) H F=F (.agg [S c1,S c2]):=λ{F}=>D7 rfl hb (by show 0+2<=5;decide);have i:∀{F:K2},AD A4 (.ptr a 3 0) H F=F (.agg [S r1,S r2]):=λ{F}=>D7 rfl c (by show 3+2<=5;decide);have j:∀{F:K2},AD A4 (.ptr b 3 0) H F=F (.agg [S r1,S r2]):=λ{F}=>D7 rfl hb (by show 3+2<=5;decide);simp only[Po,d,cb,i,j,g,h,C41,gT,Cb,RC,MP,neI,AZ,BE];exact B6b (n:=n) f c hb (e _ _ λb=>⟨false,CC⟩) (L+20) 0 (by omega) (by omega)
theorem B6c{l:List AR}(d:l.length<1000)(c:k H=x0):
 ∀(fuel i:Nat),l.length<fuel+i->i<=l.length->Uo (L+20) (r! L n) K k fuel (DD l) (DD l) (I i) H=x0
 |0,i,h1,h2=>by omega
 |fuel+1,i,h1,h2=>by
  rw[pH];unfold Up Km A3 Ga;rw[O_];by_cases h:i<l.length
  ·rw[Fz (by omega),Cu];simp only[(Mt l).ia h,Ke,Bw,RF,decide_true,Bool.not_true];rw[AZ,Db (by omega)];exact B6c d c fuel (i+1) (by omega) (by omega)
  ·rw[Fp (by omega),AZ];exact c
def B4v{l:List AR}(d:l.length<1000)(e:1000<L):CS (r! L (n+1)) K6 [DD l,DD l] (Bo true):=by
 intro K c;rw[uM];unfold WS A3 Kn Ga;rw[O_,O_,neI,AZ];simp only[BE];exact B6c (n:=n) d (c _ _ λb=>⟨false,CC⟩) (L+20) 0 (by omega) (by omega)
theorem B6a{t:Nat}{xs:List Nd}{id:Int}{o:UD}(e:xs.length<1000)(c:Ai H a=some (c_ t (B0 id (BC ks) (Ci xs) o)))(hb:Ai H b=some (c_ t (B0 id (BC ks) (Ci xs) o)))(d:k H=x0):
 ∀(fuel i:Nat),xs.length<fuel+i->i<=xs.length->Ud (L+20) (r! L n) K k fuel (.ptr a 0 0) (.ptr b 0 0) w (I i) H=x0
 |0,i,h1,h2=>by omega
 |fuel+1,i,h1,h2=>by
  rw[pB];unfold Uf Dz QY Km A3 Ga;have f:∀{F:K2},AD Aw (.ptr a 2 0) H F=F (Ci xs):=λ{F}=>AF (p:=2) rfl c (by show 2<23;decide);have g:∀{F:K2},AD Aw (.ptr b 2 0) H F=F (Ci xs):=λ{F}=>AF (p:=2) rfl hb (by show 2<23;decide);simp only[Po,f,g,Bw,Q8];by_cases h:i<xs.length
  ·rw[Fz (by omega),Cu];simp only[jL h,jJ,C42,Bw];rw[AZ,Db (by omega)];exact B6a e c hb d fuel (i+1) (by omega) (by omega)
  ·rw[Fp (by omega),AZ];exact d
theorem B69{t:Nat}{xs:List Nd}{id:Int}{o:UD}{k:AV->AV->KV}(e:ks.length<1000)(c:Ai H a=some (c_ t (B0 id (BC ks) (Ci xs) o)))(hb:Ai H b=some (c_ t (B0 id (BC ks) (Ci xs) o)))(d:∀w,k (.ptr a 0 0) (.ptr b 0 0) w H=x0):
 ∀(fuel i:Nat),ks.length<fuel+i->i<=ks.length->Uc (L+20) (r! L n) K k fuel (.ptr a 0 0) (.ptr b 0 0) (I i) w H=x0
 |0,i,h1,h2=>by omega
 |fuel+1,i,h1,h2=>by
  rw[pA];unfold Ue Dz QY Km A3 Ga;have f:∀{F:K2},AD Al (.ptr a 1 0) H F=F (BC ks):=λ{F}=>AF (p:=1) rfl c (by show 1<23;decide);have g:∀{F:K2},AD Al (.ptr b 1 0) H F=F (BC ks):=λ{F}=>AF (p:=1) rfl hb (by show 1<23;decide);simp only[Po,f,g,Bw,MQ];by_cases h:i<ks.length
  ·rw[Fz (by omega),Cu];simp only[ZG h,ZF,B6D,Bw];rw[AZ,Db (by omega)];exact B69 e c hb d fuel (i+1) (by omega) (by omega)
  ·rw[Fp (by omega),AZ];exact d _
def B4t{xs:List Nd}{id:Int}{o:UD}(h1:ks.length<1000)(h2:xs.length<1000)(r:1000<L):CS (r! L (n+1)) Hn [.agg (B0 id (BC ks) (Ci xs) o),.agg (B0 id (BC ks) (Ci xs) o)] (Bo true):=by
 intro K d;rw[uB];unfold W0 Dz Qa FQ A3 Kn Ga;refine C12 (by rfl) λa b H c hb=>?_;have e:∀{F:K2},AD Al (.ptr a 1 0) H F=F (BC ks):=λ{F}=>AF (p:=1) rfl c (by show 1<23;decide);have f:∀{F:K2},AD Al (.ptr b 1 0) H F=F (BC ks):=λ{F}=>AF (p:=1) rfl hb (by show 1<23;decide);have g:∀{F:K2},AD Aw (.ptr a 2 0) H F=F (Ci xs):=λ{F}=>AF (p:=2) rfl c (by show 2<23;decide);have h:∀{F:K2},AD Aw (.ptr b 2 0) H F=F (Ci xs):=λ{F}=>AF (p:=2) rfl hb (by show 2<23;decide);have i:∀{F:K2},AD Ab (.ptr a 0 0) H F=F (I id):=λ{F}=>AF (p:=0) rfl c (by show 0<23;decide);have j:∀{F:K2},AD Ab (.ptr b 0 0) H F=F (I id):=λ{F}=>AF (p:=0) rfl hb (by show 0<23;decide);have m:∀{F:K2},AD A0 (.ptr a 3 0) H F=F (.agg (Cx o)):=λ{F}=>D7 rfl c (by show 3+20<=23;decide);have q:∀{F:K2},AD A0 (.ptr b 3 0) H F=F (.agg (Cx o)):=λ{F}=>D7 rfl hb (by show 3+20<=23;decide);simp only[Po,e,f,g,h,i,j,m,q,B6D,gT,Cb,RC,MQ,Q8,neI,AZ,BE];exact B69 (n:=n) h1 c hb (λw=>B6a (n:=n) h2 c hb (d _ _ λb=>⟨false,CC⟩) (L+20) 0 (by omega) (by omega)) (L+20) 0 (by omega) (by omega)
def B4s:PS (r! L (n+40)) Hn [.agg (B0 0 Av Av u0),.agg (B0 0 Av Av u0)] (Bo true):=A1f
def B0c:PS (r! L (n+40)) jD [.agg [I 0,Av,Av],.agg [I 0,Av,Av]] (Bo true):=BJ (λH K=>by kernel_rfl) (by kernel_rfl)
end
end
section
variable{gs:ed}
variable{L n:Nat}
section
variable{H:Hp}{K:KV}{x0:Af}{a b:Nat}
def B0b{kd:Int}{m:ND}{u:UD}{ca cb:Ha}{T:AV}{ra rb:Ha}{P:AV}{id:Int}{ins c:AV}{o:UD}{r:RD}{vd:Int}(o1:AV.one T=true)(o2:AV.one P=true)(o3:AV.one ins=true)(o4:AV.one c=true)(Z:PS (r! L (n+40)) K4 [.agg (NJ ca cb T ra rb),.agg (NJ ca cb T ra rb)] (Bo true))(h9:PS (r! L (n+40)) Hn [.agg (B0 id ins c o),.agg (B0 id ins c o)] (Bo true))(h2:PS (r! L (n+40)) K6 [P,P] (Bo true)):
 CS (r! L (n+41)) OM [.agg (DW kd m u ca cb T ra rb P id ins c o r vd),.agg (DW kd m u ca cb T ra rb P id ins c o r vd)] (Bo true):=by
 intro K hK;rw[tX];unfold Wu LR;refine C12 (by
  have e:(DW kd m u ca cb T ra rb P id ins c o r vd).all AV.one=(AV.one T&&(AV.one P&&(AV.one ins&&(AV.one c&&true)))):=rfl;rw[e,o1,o2,o3,o4];rfl) λa b H h hb=>?_
 have f:∀{i:Nat}{t:TI}(h1:t.d.isAgg=false)(h2:i<68){F:K2},AD t (.ptr a i 0) H F=F ((DW kd m u ca cb T ra rb P id ins c o r vd).getD i .dk):=λ{i t}h1 h2{F}=>AF (p:=i) h1 h h2;have g:∀{i:Nat}{t:TI}(h1:t.d.isAgg=false)(h2:i<68){F:K2},AD t (.ptr b i 0) H F=F ((DW kd m u ca cb T ra rb P id ins c o r vd).getD i .dk):=λ{i t}h1 h2{F}=>AF (p:=i) h1 hb h2;have N:∀{F:K2},AD Ab (.ptr a 0 0) H F=F (I kd):=λ{F}=>f (i:=0) rfl (by decide);have b0:∀{F:K2},AD Ab (.ptr b 0 0) H F=F (I kd):=λ{F}=>g (i:=0) rfl (by decide);have a1:∀{F:K2},AD Ab (.ptr a 1 0) H F=F (I m.lab):=λ{F}=>f (i:=1) rfl (by decide);have b1:∀{F:K2},AD Ab (.ptr b 1 0) H F=F (I m.lab):=λ{F}=>g (i:=1) rfl (by decide);have a2:∀{F:K2},AD Ab (.ptr a 2 0) H F=F (I m.num):=λ{F}=>f (i:=2) rfl (by decide);have b2:∀{F:K2},AD Ab (.ptr b 2 0) H F=F (I m.num):=λ{F}=>g (i:=2) rfl (by decide);have O:∀{F:K2},AD Ab (.ptr a 3 0) H F=F (I m.itm):=λ{F}=>f (i:=3) rfl (by decide);have X:∀{F:K2},AD Ab (.ptr b 3 0) H F=F (I m.itm):=λ{F}=>g (i:=3) rfl (by decide);have Q:∀{F:K2},AD Ab (.ptr a 4 0) H F=F (I m.tim):=λ{F}=>f (i:=4) rfl (by decide);have b4:∀{F:K2},AD Ab (.ptr b 4 0) H F=F (I m.tim):=λ{F}=>g (i:=4) rfl (by decide);have R:∀{F:K2},AD Ab (.ptr a 5 0) H F=F (I m.day):=λ{F}=>f (i:=5) rfl (by decide);have Y:∀{F:K2},AD Ab (.ptr b 5 0) H F=F (I m.day):=λ{F}=>g (i:=5) rfl (by decide);have k:∀{F:K2},AD Ac (.ptr a 31 0) H F=F P:=λ{F}=>f (i:=31) rfl (by decide);have y:∀{F:K2},AD Ac (.ptr b 31 0) H F=F P:=λ{F}=>g (i:=31) rfl (by decide);have v:∀{F:K2},AD Ab (.ptr a 64 0) H F=F (I vd):=λ{F}=>f (i:=64) rfl (by decide);have C:∀{F:K2},AD Ab (.ptr b 64 0) H F=F (I vd):=λ{F}=>g (i:=64) rfl (by decide);have V:∀{F:K2},AD A0 (.ptr a 6 0) H F=F (.agg (Cx u)):=λ{F}=>D7 rfl h (by show 6+20<=68;decide);have b6:∀{F:K2},AD A0 (.ptr b 6 0) H F=F (.agg (Cx u)):=λ{F}=>D7 rfl hb (by show 6+20<=68;decide);have j:∀{F:K2},AD E0 (.ptr a 26 0) H F=F (.agg (NJ ca cb T ra rb)):=λ{F}=>D7 rfl h (by show 26+5<=68;decide);have x:∀{F:K2},AD E0 (.ptr b 26 0) H F=F (.agg (NJ ca cb T ra rb)):=λ{F}=>D7 rfl hb (by show 26+5<=68;decide);have q:∀{F:K2},AD AT (.ptr a 32 0) H F=F (.agg (B0 id ins c o)):=λ{F}=>D7 rfl h (by show 32+23<=68;decide);have A:∀{F:K2},AD AT (.ptr b 32 0) H F=F (.agg (B0 id ins c o)):=λ{F}=>D7 rfl hb (by show 32+23<=68;decide);have s:∀{F:K2},AD D2 (.ptr a 55 0) H F=F (.agg r.cs):=λ{F}=>D7 rfl h (by show 55+9<=68;decide);have B:∀{F:K2},AD D2 (.ptr b 55 0) H F=F (.agg r.cs):=λ{F}=>D7 rfl hb (by show 55+9<=68;decide);have w:∀{F:K2},AD L0 (.ptr a 65 0) H F=F (.agg [I 0,Av,Av]):=λ{F}=>D7 rfl h (by show 65+3<=68;decide);have D:∀{F:K2},AD L0 (.ptr b 65 0) H F=F (.agg [I 0,Av,Av]):=λ{F}=>D7 rfl hb (by show 65+3<=68;decide);have J:=B0c (L:=L) (n:=n);have p8:∀{F:K2},Ap (r! L (n+40)) K4 [.agg (NJ ca cb T ra rb),.agg (NJ ca cb T ra rb)] H F=F (Bo true):=λ{F}=>Z H F;have p9:∀{F:K2},Ap (r! L (n+40)) Hn [.agg (B0 id ins c o),.agg (B0 id ins c o)] H F=F (Bo true):=λ{F}=>h9 H F;have p2:∀{F:K2},Ap (r! L (n+40)) K6 [P,P] H F=F (Bo true):=λ{F}=>h2 H F;have M:∀{F:K2},Ap (r! L (n+40)) jD [.agg [I 0,Av,Av],.agg [I 0,Av,Av]] H F=F (Bo true):=λ{F}=>J H F;simp only[Po,j,x,p8,q,A,p9,k,y,p2,w,D,M,Eh,Bool.not_true,gT,Cb,RC,AZ];simp only[N,b0,a1,b1,a2,b2,O,X,Q,b4,R,Y,eqI,gT,Cb,UV,Po,V,b6,C3Z,s,B,C43,v,C];exact hK _ _ λb=>⟨false,CC⟩
def A5z{l:List AR}:Fx true depth (DD l) (DD l) H false:=by cases l<;>exact λK=>by kernel_rfl
def B5I{c:Cd}(h:c.Ok)(e:1000<L):CS (r! L (n+41)) OM [.agg c.cs,.agg c.cs] (Bo true):=by
 have f8:∀{ts:dQ}{c1 c2 r1 r2:Ha},ts.length<=6->PS (r! L (n+40)) K4 [.agg (NJ c1 c2 (E4 ts) r1 r2),.agg (NJ c1 c2 (E4 ts) r1 r2)] (Bo true):=λ{ts c1 c2 r1 r2}f H F=>by
  have fx:Fx true depth (.agg (NJ c1 c2 (E4 ts) r1 r2)) (.agg (NJ c1 c2 (E4 ts) r1 r2)) H false:=by cases ts<;>exact λK=>by kernel_rfl
  exact AP (B4u (n:=n+39) (by omega) e) (Ao fx (Ao fx AH))
 have f2:∀{ps:List AR},ps.length<=6->PS (r! L (n+40)) K6 [DD ps,DD ps] (Bo true):=λ{ps}f H F=>
  AP (B4v (n:=n+39) (by omega) e) (Ao A5z (Ao A5z AH))
 have f9:∀{p:Pr},p.Ok->PS (r! L (n+40)) Hn [.agg (B0 p.id (BC p.ks) (Ci p.xs) (uu p.out)),.agg (B0 p.id (BC p.ks) (Ci p.xs) (uu p.out))] (Bo true):=λ{p}d H F=>by
  have fx:Fx true depth (.agg (B0 p.id (BC p.ks) (Ci p.xs) (uu p.out))) (.agg (B0 p.id (BC p.ks) (Ci p.xs) (uu p.out))) H false:=λK=>by kernel_rfl
  have g:p.xs.length<1000:=by
   have:=d.k3;show(Lg p.ks++p.x.nd).length<1000;rw[EK,DT];have:p.x.nd.length<=1:=by cases p.x<;>simp[Ex.nd]
   omega
  exact AP (B4t (n:=n+39) (by have:=d.k3;omega) g e) (Ao fx (Ao fx AH))
 have ot:∀ts:dQ,AV.one (E4 ts)=true:=λts=>by cases ts<;>rfl
 have op:∀ps:List AR,AV.one (DD ps)=true:=λps=>by cases ps<;>rfl
 match c,h with
 |.re b u,⟨hb,_⟩=>exact B0b (ot _) (op []) rfl rfl (f8 hb.ts.len) B4s (f2 (ps:=[]) (by simp))
 |.co b p ps none,⟨hb,d,f,_⟩=>exact B0b (ot _) (op ps) rfl rfl (f8 hb.ts.len) (f9 d) (f2 (by have:=d.k3;omega))
 |.co b p ps (some (k,vd)),⟨hb,d,f,_⟩=>exact B0b (ot _) (op ps) rfl rfl (f8 hb.ts.len) (f9 d) (f2 (by have:=d.k3;omega))
theorem A12{a:AV}{k:Ru}(f:∀c∈gs,c.Ok)(j:gs.length<1000)(e:1000<L)(d:LA gs a)(g:k H=x0):
 ∀(fuel i:Nat),gs.length<fuel+i->i<=gs.length->Ng (L+20) (r! L (n+41)) K k fuel a a (I i) H=x0
 |0,i,h1,h2=>by omega
 |fuel+1,i,h1,h2=>by
  rw[Yr];unfold Nh Km A3 Ga;rw[d.len];by_cases h:i<gs.length
  ·rw[Fz (by omega),Cu];have m:∀{F:K2},Ap (r! L (n+41)) OM [.agg gs[i].cs,.agg gs[i].cs] H F=F (Bo true):=λ{F}=>AP (B5I (n:=n) (f _ (Qk h)) e) (Ao (PC.fx (.c gs[i])) (Ao (PC.fx (.c gs[i])) AH));simp only[d.ia h,nH,Bw,m,Eh,Bool.not_true];rw[AZ,Db (by omega)];exact A12 f j e d g fuel (i+1) (by omega) (by omega)
  ·rw[Fp (by omega),AZ];exact g
def B36{a:AV}(g:∀c∈gs,c.Ok)(h:gs.length<1000)(f:1000<L)(d:LA gs a):CS (r! L (n+42)) Lo [a,a] (Bo true):=by
 intro K e;rw[ZP];unfold Oo A3 Kn Ga;rw[d.len,d.len,neI,AZ];simp only[BE];exact A12 (n:=n) g h f d (e _ _ λb=>⟨false,CC⟩) (L+20) 0 (by omega) (by omega)
end
end
section
variable{L n:Nat}
abbrev Uu(u:Nat):AV:=.v (.int .u64 (u:Int))
def A0D{x:Int}(h1:0<=x)(h2:x<18446744073709551616):IntKind.u64.wrap x=x:=by
 simp only[IntKind.wrap,IntKind.bits,IntKind.signed];have a:(2^64:Int)=18446744073709551616:=by decide
 simp only[a,Bool.false_and,yG,if_false];omega
section
variable{K:K2}{u v:Nat}{z:Int}
def B6I(a:0<=z)(h1:z<9223372036854775808):Hg Ab CE (I z) K=K (Uu z.toNat):=by
 have e:Hg Ab CE (I z) K=MM .u64 z λz=>K (.v (.int .u64 z)):=rfl;rw[e,HJ,A0D a (by omega)];exact congrArg (λz=>K (.v (.int .u64 z))) (Int.toNat_of_nonneg a).symm
def B6H:Hg CE AW (Uu u) K=K (By (UInt8.ofNat u)):=by
 have e:Hg CE AW (Uu u) K=MM .u8 (u:Int) λz=>K (.v (.int .u8 z)):=rfl;rw[e,HJ,Yh rfl];have:(u:Int)%(2^IntKind.u8.bits:Nat)=((UInt8.ofNat u).toNat:Int):=by
  rw[UInt8.toNat_ofNat'];exact(Int.natCast_emod _ _).symm
 rw[this]
def C1Z(h:u+v<18446744073709551616):Ar CE .add (Uu u) (Uu v) K=K (Uu (u+v)):=by
 rw[CY,A0D (by omega) (by omega)];exact congrArg (λz=>K (.v (.int .u64 z))) (by omega)
def B65(h:u*v<18446744073709551616):Ar CE .mul (Uu u) (Uu v) K=K (Uu (u*v)):=by
 have e:(u:Int)*(v:Int)=((u*v:Nat):Int):=(Int.natCast_mul u v).symm;rw[OZ,e,A0D (by omega) (by omega)]
def C1W(h:v<=u)(a:u<18446744073709551616):Ar CE .sub (Uu u) (Uu v) K=K (Uu (u-v)):=by
 rw[J6,A0D (by omega) (by omega)];exact congrArg (λz=>K (.v (.int .u64 z))) (by omega)
def C1X(h:v≠0):Ar CE .rem (Uu u) (Uu v) K=K (Uu (u%v)):=by
 rw[Q9 (by omega)];exact congrArg (λz=>K (.v (.int .u64 z))) rfl
def C1Y(h:v≠0)(b:u<18446744073709551616):Ar CE .quo (Uu u) (Uu v) K=K (Uu (u/v)):=by
 have e:(u:Int).tdiv (v:Int)=((u/v:Nat):Int):=rfl;have a:u/v<=u:=Nat.div_le_self u v;rw[A2o (by omega),e];generalize u/v=w at a;rw[A0D (by omega) (by omega)]
end
def B9a{z:Int}(h1: -4611686018427387904<z)(h2:z<4611686018427387904):PS (r! L (n+1)) SZ [I z] (Uu (zig z)):=by
 refine CS.ps (λK c=>?_) (λH=>λK=>by kernel_rfl);rw[lU];unfold Sz Ih;rw[D8,Ff];by_cases h:z<0
 ·rw[Dq (by simpa using h),mX (by omega) (by omega),B6I (by omega) (by omega)];have a:(AV.v (.int .u64 2))=Uu 2:=rfl;have d:(AV.v (.int .u64 1))=Uu 1:=rfl;rw[a,d,B65 (by omega),C1W (by omega) (by omega)];have e:zig z=(-z).toNat*2-1:=by unfold zig;rw[Dq h];omega
  rw[<-e];exact c _ _ λb=>⟨false,λK=>by kernel_rfl⟩
 ·rw[CF (by simpa using h),B6I (by omega) (by omega)];have a:(AV.v (.int .u64 2))=Uu 2:=rfl;rw[a,B65 (by omega)];have e:zig z=z.toNat*2:=by unfold zig;rw[CF h];omega
  rw[<-e];exact c _ _ λb=>⟨false,λK=>by kernel_rfl⟩
def XP:Nat->Nat->Ha->Nat×Ha
 |0,u,l=>(u,l)
 |f+1,u,l=>if 128<=u then XP f (u/128) (l++[UInt8.ofNat (u%128+128)]) else(u,l)
theorem A1p:∀(f u:Nat)(l:Ha),(XP f u l).2.length<=l.length+f
 |0,u,l=>Mh _
 |f+1,u,l=>by
  unfold XP;split
  ·have:=A1p f (u/128) (l++[UInt8.ofNat (u%128+128)]);rw[EK,List.length_singleton]at this;omega
  ·show l.length<=_;omega
def B6N{b:UInt8}{H:Hp}(K:KV):FU Bl 1 AW 1 [(0,1,By b)] H K=K (.sl 1 (As H) 0 1) ((As H,.cells false Bl [By b])::H):=nP (z:=By 0) (λK=>rfl) (λK=>rfl) rfl K
section
variable{K:KV}{x0:Af}{R:Rt}{k:AV->KV}
theorem B0f:∀(f F u:Nat)(l:Ha)(v:AV)(H:Hp),u<128^(f+1)->u<18446744073709551616->f<F->Bk H Bl 1 v l.length (Lw l)->Wf H->l.length+f<=100->
 (∀e c,Bk c Bl 1 e (XP f u l).2.length (Lw (XP f u l).2)->Wf c->k (Uu (XP f u l).1) e c=x0)->QG L R K k F (Uu u) v H=x0
 |f,0,u,l,v,H,_,_,h,_,_,_,_=>by omega
 |f,F+1,u,l,v,H,d,hb,i,m,w,j,a=>by
  rw[gQ];unfold QH;have q:(AV.v (.int .u64 128))=Uu 128:=rfl;rw[q,KO,Ff];by_cases h:128<=u
  ·rw[Dq (HR (by omega))]
   match f,d,i,j,a with
   |0,d,_,_,_=>exact absurd d (by omega)
   |f+1,d,i,j,a=>
    have g:XP (f+1) u l=XP f (u/128) (l++[UInt8.ofNat (u%128+128)]):=by rw[XP,Dq h]
    rw[g]at a;obtain⟨e,c,a1,a2,p,_⟩:=C1a (ie:=AW) (i2:=AU) (B6N (b:=UInt8.ofNat (u%128+128)) (H:=H)) m w rfl rfl (by decide) rfl (λ_=>rfl) (by show(_+1)*1<=_;omega) (by omega);rw[C1X (by decide),C1Z (by omega),B6H,a1,C1Y (by decide) hb];have r:Lw l++[By (UInt8.ofNat (u%128+128))]=Lw (l++[UInt8.ofNat (u%128+128)]):=jS l [_];rw[r]at a2;refine B0f f F (u/128) _ e c ?_ (by omega) (by omega) (by rw[EK];exact a2) p (by rw[EK,List.length_singleton];omega) a;rw[Nat.pow_succ]at d;omega
  ·rw[CF (by rw[decide_eq_true_eq];omega)];have g:XP f u l=(u,l):=by cases f with|zero=>rfl|succ f=>rw[XP,CF h]
   rw[g]at a;exact a v H m w
end
def B9h{z:Int}(hz:J7 z)(p:100<L):∃s e,s.length<=12/\PS (r! L (n+2)) LI [I z] (.tup [S s,I e]):=by
 obtain⟨g,h⟩:=hz;by_cases h1:z< -4611686018427387903
 ·refine⟨[],10,by simp,CS.ps (λK c=>?_) (λH=>λK=>by kernel_rfl)⟩;rw[PG];unfold L7 FQ A3 Kn;rw[D8,HR h1];simp only[zX,Cb,UV,Cu];exact c _ _ λb=>⟨false,λK=>by kernel_rfl⟩
 ·by_cases h2:4611686018427387903<z
  ·refine⟨[],10,by simp,CS.ps (λK c=>?_) (λH=>λK=>by kernel_rfl)⟩;rw[PG];unfold L7 FQ A3 Kn;rw[D8,HW h1];simp only[gT,Cb,Ef,HR h2,RC,Cu];exact c _ _ λb=>⟨false,λK=>by kernel_rfl⟩
  ·have i:zig z<9223372036854775808:=by unfold zig;split<;>omega
   have a:=A1p 10 (zig z) [];refine⟨(XP 10 (zig z) []).2++[UInt8.ofNat (XP 10 (zig z) []).1],0,by rw[EK];simp at a⊢;omega,CS.ps (λK c=>?_) (λH=>λK=>by kernel_rfl)⟩;rw[PG];unfold L7 FQ A3 Kn;rw[D8,HW h1];simp only[gT,Cb,Ef,HW h2,RC,AZ];rw[B9a (n:=n) (by omega) (by omega)];simp only[BE];refine B0f 10 (L+20) (zig z) [] _ _ (by rw[show(128:Nat)^(10+1)=151115727451828646838272 from by decide];omega) (by omega) (by omega) (.inl ⟨rfl,rfl,rfl⟩) FH (by simp) λv H f w=>?_;simp at a;obtain⟨q,j,a1,a2,m,_⟩:=C1a (ie:=AW) (i2:=AU) (B6N (b:=UInt8.ofNat (XP 10 (zig z) []).1) (H:=H)) f w rfl rfl (by decide) rfl (λ_=>rfl) (by show(_+1)*1<=_;omega) (by omega);rw[B6H,a1];have d:Lw (XP 10 (zig z) []).2++[By (UInt8.ofNat (XP 10 (zig z) []).1)]=Lw ((XP 10 (zig z) []).2++[UInt8.ofNat (XP 10 (zig z) []).1]):=jS _ [_];rw[d]at a2;rw[Z! a2];exact c _ _ λb=>⟨false,λK=>by kernel_rfl⟩
def B4g{z:Int}(hz:J7 z)(h:100<L):∃s,s.length<=12/\CS (r! L (n+3)) Eu [.list 1 (Fl [z])] (S s):=by
 obtain⟨s,e,j,i⟩:=B9h (L:=L) (n:=n) hz h;refine⟨s,j,λK g=>?_⟩;rw[TA];unfold MT A3;simp only[BE];have d:=λH K=>i H K;have el:∀K,Bh Bs (.list 1 (Fl [z])) K=K (I ((1:Nat):Int)):=λK=>r_ rfl;have a:∀{F:K2},CM (.tup [S s,I e]) 0 F=F (S s):=λ{F}=>r_ rfl;have c:∀{F:K2},CM (.tup [S s,I e]) 1 F=F (I e):=λ{F}=>r_ rfl;have f:(AV.v (.int .i64 0))=I ((0:Nat):Int):=rfl;have ia:∀{F:K2},DC Bs (.list 1 (Fl [z])) (I ((0:Nat):Int)) F=F (.iptr [I z]):=λ{F}=>by kernel_rfl
 show LZ (L+20) (r! L (n+2)) K _ (L+18+1+1) _ _ _ _=_;rw[Ni];unfold JT IA A3;rw[el,f,Fz (by omega),Cu,ia,Ny rfl,d,a,c,B9 (by simp;omega),l3b,Db (by omega),Ni];unfold JT IA A3;rw[el,Fp (by omega),AZ];exact g _ _ λb=>⟨false,CC⟩
def B9i{z:Int}(hz:J7 z)(d:40000<L):∃s,PS (r! L (n+20)) F3 [I z] (S s):=by
 obtain⟨s,e,c⟩:=B4g (L:=L) (n:=n+16) hz (by omega);refine⟨sha s,CS.ps (λK a=>?_) (λH=>λK=>by kernel_rfl)⟩;rw[Vs];unfold Oq Ih;have fx:R9 true depth [.sl 1 (As []) 0 1] [.list 1 (Fl [z])] ((As [],.cells false GJ (Fl [z]))::[]) true:=
  Ao (q:=true) (q':=false) (VE (D:=depth-1) (q':=false) (Ax (by simp)) rfl (K1 (λz:Int=>Value.int .i64 z) [z])) AH
 rw[XB,AP c fx,AP (A9v (L:=L+20) (n:=n+16) (s:=s) (by omega) (by omega)) (q:=false) (λK=>by kernel_rfl)];exact a _ _ (λb=>⟨false,λK=>by kernel_rfl⟩)
end
section
variable{L n:Nat}
section
variable{H H0 H':Hp}{v a:AV}{gs A B:ed}{K:KV}{x0:Af}{r m:Nat}{z:Int}{x y:AV}{ss tt:List AR}
end
end
section
variable{F:K2}{i:Nat}
variable{L n:Nat}
section
variable{H H0 H':Hp}{v a:AV}{l gs A B:ed}{K:KV}{x0:Af}{r m:Nat}{z:Int}{x y:AV}{ps:PV}{ws:List Pk}
def B6G(h:i<m):DC AQ (.sl 3 r 0 m) (I (i:Int)) F=F (.ptr r (i*3) 0):=by
 have b:DC AQ (.sl 3 r 0 m) (I (i:Int)) F=iN (i:Int) λn=>ck (Nat.blt n m) (fN (Nat.add 0 (Nat.mul n 3)) λp=>F (.ptr r p 0)):=rfl;rw[b,Kk,Ee];have h1:Nat.blt i m=true:=by rw[Xi];exact h
 have h2:Nat.add 0 (Nat.mul i 3)=i*3:=Kd _;rw[h1,h2];rfl
def A5y{tl:Is}(c:i<ps.length):(ps.flatMap pvC++tl).drop (i*3)=pvC ps[i]++((ps.drop (i+1)).flatMap pvC++tl):=by
 have b:ps=ps.take i++ps[i]::ps.drop (i+1):=by rw[<-uZ c,l38]
 conv=>lhs;rw[b]
 have d:((ps.take i).flatMap pvC).length=i*3:=by rw[B9v,l0h];congr 1;omega
 rw[l2l,fQ,<-d,List.drop_left,rE,fQ]
def B2s.len(h:B2s H v ps):Bh AQ v F=F (I ps.length):=by
 rcases h with⟨rfl,rfl⟩|rfl|⟨_,_,_,rfl,_⟩<;>exact r_ rfl
theorem B2s.cs(h:B2s H v ps)(b:i<ps.length):(DC AQ v (I i) λu=>CD 2 u λw=>AD Ak w H F)=F ps[i].2.2:=by
 rcases h with⟨rfl,rfl⟩|rfl|⟨r,q,c,rfl,h⟩
 ·simp at b
 ·rw[Zf (f:=pvC) rfl (λ_=>rfl) b];exact r_ rfl
 ·rw[B6G b,fA];have e:AD Ak (.ptr r (i*3+2) 0) H F=IR H r λx=>Ki x λ_ cs=>hdK (Dn (Nat.add (i*3+2) 0) cs) F:=r_ rfl;rw[e,Bp h];show hdK (Dn (i*3+2+0) (ps.flatMap pvC++c)) F=_;rw[Nat.add_zero,CA,<-l1a,A5y b];exact r_ rfl
theorem PksAt.len(h:PksAt H v ws):Bh AQ v F=F (I ws.length):=by
 obtain⟨ps,rfl,h2,b⟩:=h.at_;rw[b.len,UH]
theorem PksAt.cs(h:PksAt H v ws)(b:i<ws.length):∃cv,dR H cv ws[i].cs/\∀F:K2,(DC AQ v (I i) λu=>CD 2 u λw=>AD Ak w H F)=F cv:=by
 obtain⟨ps,rfl,h2,c⟩:=h.at_;rw[UH]at b;have d:=h2 _ (Qk b);refine⟨ps[i].2.2,?_,λF=>c.cs b⟩;rw[l2n];exact d.cs
end
end
section
variable{L n:Nat}
section
variable{H H0 H':Hp}{v a:AV}{l gs A B:ed}{K:KV}{x0:Af}{r m ra ma rb mb:Nat}{z:Int}{x y:AV}{ps:PV}{ws:List Pk}{p:Pk}
def StAt.lat(h:StAt H r m A)(c:StAt H' r m A)(k:Lat H H' (λu=>u=m)):Lat H H' (λ_=>False):=
 ⟨k.wf,k.nx,λw u y b _=>by
  by_cases e:u=m
  ·subst e;rw[h.mm]at b;rw[<-b];exact c.mm
  ·exact k.keep w u y b e⟩
def A19(c:p.Right)(b:p.kd=2):L4 A p=(A,U_ A p.ds):=by
 unfold L4;rw[Dq c,CF (by omega),Dq b]
end
end
section
variable{L n:Nat}
section
variable{H H0 H':Hp}{v a:AV}{l gs A B:ed}{K:KV}{x0:Af}{r m ra ma rb mb:Nat}{z:Int}{x y:AV}{ps:PV}{ws:List Pk}{p:Pk}
def A5B(b:GOk gs){i:Nat}:StIn gs (Mp z i gs):=⟨λc hc=>zK.mem hc,b.ids.sublist (zK.map _)⟩
end
end
def lX:Ha:=[131,104,90,156,194,33,46,235,120,196,11,153,229,79,30,59,146,4,139,217,16,139,18,15,47,76,188,190,151,16,182,131]
def NR:Cd:=.co ⟨⟨1,2,1,0,0⟩, -80,0,[(1, -5),(2, -5),(3, -5),(4, -8),(5, -8)]⟩ ⟨1,[3],.no⟩ [lA] none
def A9s:cdM 1 0 1 0 0 0 3 3 3 0 0 0 none [lA]=NR:=by kernel_rfl
def kT:NR.id=lX:=by kernel_rfl
def Wa:NR.ps=[lA]:=by kernel_rfl
def kU:gL.ps=[]:=rfl
def A3z:NR.Ok:=A9s▸A4P (by simp[lA])
def qT:gL.Ok:=A9t▸A4P (by simp)
def gX:ed:=[NR,gL]
def eU:gX.map Cd.id=[lX,lA]:=by simp[gX,kT,dY]
def kV:[NR].map Cd.id=[lX]:=by simp[kT]
def C3I:gE gX=[(lX,NR),(lA,gL)]:=by simp[gE,gX,kT,dY]
def XJ:GOk gX:=by
 refine⟨λc hc=>?_,λc hc=>?_,by rw[eU];decide,by decide⟩
 ·simp only[gX,Xh,List.not_mem_nil,or_false]at hc;rcases hc with rfl|rfl
  ·exact A3z
  ·exact qT
 ·simp only[gX,Xh,List.not_mem_nil,or_false]at hc;rcases hc with rfl|rfl
  ·rw[Wa];decide
  ·rw[kU];decide
def B66:StIn gX [NR]:=⟨λc hc=>by rw[YR]at hc;rw[hc];simp[gX],by rw[kV];decide⟩
def C0R:Cmp gX gL.id:=.mk (by simp[gX]) (by rw[kU];simp)
def C4b:Cmp gX NR.id:=.mk (by simp[gX]) (by rw[Wa];intro p a;rw[YR]at a;rw[a,<-dY];exact C0R)
def B1Z:I4 gX=gX:=List.filter_eq_self.2 λc hc=>@decide_eq_true _ (_) (by
 simp only[gX,Xh,List.not_mem_nil,or_false]at hc;rcases hc with rfl|rfl
 ·exact C4b
 ·exact C0R)
def B6k:¬Cmp [NR] NR.id:=λh=>by
 have h2:=Cmp.par B66.nd (by simp) h lA (by rw[Wa];simp);have:=h2.ids;rw[kV]at this;exact absurd this (by decide)
def C0P:I4 [NR]=[]:=List.filter_eq_nil_iff.2 λc hc=>by
 rw[YR]at hc;rw[hc,@decide_eq_true_iff _ (_)];exact B6k
def B57:Jw (I4 gX)=[lX]:=by
 rw[B1Z,Jw,eU];have:([lX,lA].filter λx=>decide (∀c∈gX,x∉c.ps))=[lX]:=by
  have h1:decide (∀c∈gX,lX∉c.ps)=true:=HR λc hc=>by
   simp only[gX,Xh,List.not_mem_nil,or_false]at hc;rcases hc with rfl|rfl
   ·rw[Wa];decide
   ·rw[kU];simp
  have h2:decide (∀c∈gX,lA∉c.ps)=false:=HW λh=>by
   have:=h NR (by simp[gX]);rw[Wa]at this;simp at this
  rw[l2m,h1,l2m,h2];rfl
 rw[this];rfl
def B4M:Kj [NR]=[lA]:=by
 unfold Kj;rw[kV,show[NR].flatMap Cd.ps=[lA] by simp[Wa]];decide
def B4N:Kj gX=[]:=by
 unfold Kj;rw[eU,show gX.flatMap Cd.ps=[lA] by simp[gX,Wa,kU]];decide
def C1H:dS [] [lX]=[⟨2,[lX],[]⟩]:=by
 have:wX [] [lX]=[lX]:=by decide
 unfold dS;rw[this];rfl
def C1G:dS [NR] []=[⟨2,[lA],[]⟩]:=by
 have:wX [NR] []=[lA]:=by unfold wX;rw[B4M];decide
 unfold dS;rw[this];rfl
def B5Y:dS gX []=[]:=by
 have:wX gX []=[]:=by unfold wX;rw[B4N];decide
 unfold dS;rw[this];rfl
def C3B:U_ gX [lX]=[⟨3,[],[.c NR]⟩]:=by
 have:gvn gX [lX]=[NR]:=by
  unfold gvn;rw[eU,C3I];rfl
 unfold U_;rw[this];rfl
def C3A:U_ gX [lA]=[⟨3,[],[.c gL]⟩]:=by
 have:gvn gX [lA]=[gL]:=by
  unfold gvn;rw[eU,C3I];rfl
 unfold U_;rw[this];rfl
def C1b:T2 [NR]=[]:=by unfold T2;rw[C0P];rfl
def B2U:Yi [NR]=[lX]:=by
 have:([NR].map Cd.id).filter (λx=>@decide (¬Cmp [NR] x) (Classical.propDecidable _))=[NR].map Cd.id:=List.filter_eq_self.2 λx a=>@decide_eq_true _ (_) (by
  rw[kV,YR]at a;rw[a,<-kT];exact B6k)
 unfold Yi;rw[this,kV];rfl
def B2V:Yi gX=[]:=by
 have:(gX.map Cd.id).filter (λx=>@decide (¬Cmp gX x) (Classical.propDecidable _))=[]:=List.filter_eq_nil_iff.2 λx a=>by
  rw[@decide_eq_true_iff _ (_)];rw[eU]at a;simp only[Xh,List.not_mem_nil,or_false]at a;rcases a with rfl|rfl
  ·rw[<-kT];exact λh=>h C4b
  ·rw[<-dY];exact λh=>h C0R
 unfold Yi;rw[this];rfl
def C04:(T2 gX).map Cd.id=[lA,lX]:=by
 rw[wF XJ.ids,B1Z]
 kernel_rfl
def B4D:Mp 3 0 gX=gX:=by
 have h:A2v 3 0=true:=by decide
 have h1:A2v 3 1=true:=by decide
 unfold gX;rw[Wo,h,Dq rfl,Wo,h1,Dq rfl];rfl
def rX(q:Pk)(h1:q.ds.length<=64)(h2:q.cs.length<=64)(a:∀s∈q.ds,s.length=32)(b:(q.cs=[]/\(q.kd=1\/q.kd=2))\/(q.ds=[]/\q.kd=3)):q.Right:=⟨h1,h2,a,b⟩
def C2t:L4 [] ⟨1,[lX],[]⟩=([],[⟨2,[lX],[]⟩]):=by
 unfold L4;rw[Dq (rX _ (by decide) (by decide) (by decide) (.inl ⟨rfl,.inl rfl⟩)),Dq rfl];exact congrArg _ C1H
def A9F:L4 gX ⟨2,[lX],[]⟩=(gX,[⟨3,[],[.c NR]⟩]):=by
 rw[A19 (rX _ (by decide) (by decide) (by decide) (.inl ⟨rfl,.inr rfl⟩)) rfl];exact congrArg _ C3B
def A9E:L4 [] ⟨3,[],[.c NR]⟩=([NR],[⟨2,[lA],[]⟩]):=by
 unfold L4;rw[Dq (rX _ (by decide) (by decide) (by simp) (.inr ⟨rfl,rfl⟩)),CF (by decide),CF (by decide)];have:XD [] [.c NR]=[NR]:=by
  show(if NR.id∈[].map Cd.id then[] else[]++[NR])=[NR]
  rw[CF (by simp)];rfl
 rw[show(⟨3,[],[.c NR]⟩:Pk).cs=[.c NR] from rfl,this,CF (by decide),C1G]
def A9D:L4 gX ⟨2,[lA],[]⟩=(gX,[⟨3,[],[.c gL]⟩]):=by
 rw[A19 (rX _ (by decide) (by decide) (by decide) (.inl ⟨rfl,.inr rfl⟩)) rfl];exact congrArg _ C3A
def A9C:L4 [NR] ⟨3,[],[.c gL]⟩=(gX,[]):=by
 unfold L4;rw[Dq (rX _ (by decide) (by decide) (by simp) (.inr ⟨rfl,rfl⟩)),CF (by decide),CF (by decide)];have:XD [NR] [.c gL]=gX:=by
  show(if gL.id∈[NR].map Cd.id then[NR] else[NR]++[gL])=gX;rw[CF (by rw[kV,dY];decide)];rfl
 rw[show(⟨3,[],[.c gL]⟩:Pk).cs=[.c gL] from rfl,this,CF (by decide),B5Y]
def C2s:L4 gX ⟨1,[lX],[]⟩=(gX,[]):=by
 unfold L4;rw[Dq (rX _ (by decide) (by decide) (by decide) (.inl ⟨rfl,.inl rfl⟩)),Dq rfl];have:([lX].filter λx=>decide (x∉gX.map Cd.id))=[]:=by rw[eU];decide
 rw[show(⟨1,[lX],[]⟩:Pk).ds=[lX] from rfl,this,B5Y]
section
set_option maxHeartbeats 100000000
variable{cv:AV}
variable{L n:Nat}
def RB(R:Rt)(f:Nat)(args:Is)(v:AV):Prop:=∀b,(R.call f args [] λv a=>HV b a depth v λ_ c=>some (c,[]))=some (v,[])
def RK{R:Rt}{f:Nat}{args args':Is}{v:AV}{H:Hp}{q:Bool}{K:K2}(hc:RB R f args' v)(a:R9 true depth args args' H q):Ap R f args H K=K v:=by
 unfold Ap;rw[a,hc (!q)];rfl
abbrev z6:AV:=.agg [I 0,I 0,I 0,I 0,I 0,I 0]
def m_A(d:40000<L):CT (r! L (n+44)) IB [z6,z6,Av,Av] (.agg gL.cs):=by
 intro K c;have a:J7 0:=⟨by decide,by decide⟩
 refine tJ (n:=n) (y:=none) (l:=[]) d FH a a a a a a a a a a a a (λb _=>⟨false,CC⟩) trivial (.inl (.inr ⟨rfl,rfl⟩)) (by decide) (by simp) ?_;rw[A9t];intro v b sv nv e kp fr;obtain⟨q,hq⟩:=Z? (D:=depth-2) sv nv;exact c _ _ ⟨q,LF (D:=depth-1) hq⟩
def m_X(f:40000<L):CT (r! L (n+44)) IB [.agg [I 1,I 0,I 1,I 0,I 0,I 0],.agg [I 3,I 3,I 3,I 0,I 0,I 0],Av,DD [lA]] (.agg NR.cs):=by
 intro K e;have a:J7 0:=⟨by decide,by decide⟩
 have c:J7 1:=⟨by decide,by decide⟩
 have b:J7 3:=⟨by decide,by decide⟩
 refine tJ (n:=n) (y:=none) (l:=[lA]) f FH c a c a a a b b b a a a (λd _=>⟨false,CC⟩) trivial (.inl (Mt [lA])) (by decide) (by simp[lA]) ?_;rw[A9s];intro v d sv nv g kp fr;obtain⟨q,hq⟩:=Z? (D:=depth-2) sv nv;exact e _ _ ⟨q,LF (D:=depth-1) hq⟩
abbrev l0A:AV:=.list 0 []
def nl(cv:AV):Prop:=cv=Av\/cv=l0A
def s_h:RB (r! L (n+10)) Da [.agg [I 1,DD [lX],Av],.agg [I 1,DD [lX],Av]] (Bo true):=by intro b;cases b<;>kernel_rfl
def s_1(h:nl cv):RB (r! L (n+10)) Da [.agg [I 2,DD [lX],cv],.agg [I 2,DD [lX],Av]] (Bo true):=by
 intro b;rcases h with rfl|rfl<;>cases b<;>kernel_rfl
def s_3(h:nl cv):RB (r! L (n+10)) Da [.agg [I 2,DD [lA],cv],.agg [I 2,DD [lA],Av]] (Bo true):=by
 intro b;rcases h with rfl|rfl<;>cases b<;>kernel_rfl
def s_n(h:nl cv):RB (r! L (n+10)) Da [.agg [I 1,DD [lX],Av],.agg [I 2,DD [lX],cv]] (Bo false):=by
 intro b;rcases h with rfl|rfl<;>cases b<;>kernel_rfl
def s_2{a:AV}(h:nl a):RB (r! L (n+64)) Da [.agg [I 3,a,.list 1 NR.cs],.agg [I 3,Av,.list 1 NR.cs]] (Bo true):=by
 intro b;rcases h with rfl|rfl<;>cases b<;>kernel_rfl
def C53:RB (r! L (n+10)) Dr [DD [lX],DD [lX]] (Bo true):=by intro b;cases b<;>kernel_rfl
def C52:RB (r! L (n+10)) Dr [DD [lA,lX],DD [lA,lX]] (Bo true):=by intro b;cases b<;>kernel_rfl
end
section
set_option maxHeartbeats 100000000
variable{cv dv:AV}
variable{L n:Nat}
section
variable{H H0 H':Hp}{v:AV}{A Y:ed}{K:KV}{x0:Af}{r m b nr pq r1 m1 m2:Nat}{ws:List Pk}
structure Sn(b nr pq r1 m1 m2:Nat)(H:Hp):Prop where
 wf:Wf H
 cb:Ai H b=some (c_ Ad NR.cs)
 nm:∃q,Ai H nr=some (.cells q Aq [S lA,S lX])
 pk:Ai H pq=some (c_ Ay [I 1,DD [lX],Av])
 sx:StAt H r1 m1 gX
 ne:b≠m2/\nr≠m2/\pq≠m2/\r1≠m2/\m1≠m2
def Sn.kp(h:Sn b nr pq r1 m1 m2 H)(k:Lat H H' (λu=>u=m2)):Sn b nr pq r1 m1 m2 H':=by
 obtain⟨w,h1,⟨q,h2⟩,i,g,a,c,d,e,f⟩:=h;exact⟨k.wf w,k.keep w _ _ h1 a,⟨q,k.keep w _ _ h2 c⟩,k.keep w _ _ i d,⟨k.keep w _ _ g.st e,k.keep w _ _ g.mm f⟩,a,c,d,e,f⟩
def Lat.no(k:Lat H H' (λ_=>False)):Lat H H' (λu=>u=m2):=⟨k.wf,k.nx,λw u y a _=>k.keep w u y a id⟩
theorem PksAt.ptr(h:PksAt H v ws){i:Nat}(a:i<ws.length):∃p w,(∀F:K2,DC AQ v (I i) F=F p)/\PkS H w ws[i]/\∀H',(∀u y,A9 v u->Ai H u=some y->Ai H' u=some y)->∀F:K2,AD A5 p H' F=F w:=by
 obtain⟨ps,rfl,h2,s⟩:=h.at_;rw[UH]at a;have d:=h2 _ (Qk a);have j:PkS H (.agg (pvC ps[i])) (ps.map Prod.fst)[i]:=⟨ps[i].2.1,ps[i].2.2,by rw[l2n];rfl,by rw[l2n];exact d.ds,by rw[l2n];exact d.cs,by rw[l2n];exact d.nl⟩
 rcases s with⟨rfl,rfl⟩|rfl|⟨r,q,t,rfl,g⟩
 ·simp at a
 ·exact⟨.iptr (pvC ps[i]),_,λF=>Zf (f:=pvC) rfl (λ_=>rfl) a,j,λH' _ F=>r_ rfl⟩
 ·refine⟨.ptr r (i*3) 0,_,λF=>B6G a,j,λH' k F=>?_⟩;have h:=k r _ ⟨_,_,_,rfl⟩ g;have e:AD A5 (.ptr r (i*3) 0) H' F=IR H' r λx=>Ki x λ_ cs=>EO 3 (Dn (Nat.add (i*3) 0) cs) λc=>F (.agg c):=r_ rfl;rw[e,Bp h];show EO 3 (Dn (i*3+0) (ps.flatMap pvC++t)) (λc=>F (.agg c))=_;rw[Nat.add_zero,CA,A5y a];exact r_ rfl
theorem PkS.fx{q:Pk}(h:PkS H v q):∃dv cv f,SA q.ds dv/\dR [] cv q.cs/\Fx true depth v (.agg [I q.kd,dv,cv]) H f:=by
 obtain⟨dv,cv,rfl,h1,h2,_⟩:=h.at_;obtain⟨d,q1,g,f1⟩:∃a e,SA q.ds a/\Fx true 11 dv a H e:=by
  rcases h1 with h|h
  ·refine⟨dv,false,h,?_⟩;rcases h with rfl|⟨_,rfl⟩<;>exact λK=>rfl
  ·exact h.fx (D:=10)
 obtain⟨c,q2,i,f2⟩:=h2.fx (D:=10);exact⟨d,c,_,g,i,LF (D:=11) (Ao (q:=false) CC (Ao f1 (Ao f2 AH)))⟩
def C0W(h:dR [] cv []):nl cv:=by
 rcases h with⟨rfl,_⟩|rfl|⟨_,_,_,_,h⟩
 ·exact .inl rfl
 ·exact .inr rfl
 ·simp[Ai]at h
def C4e{d:Cd}(h:dR [] cv [.c d]):cv=.list 1 d.cs:=by
 rcases h with⟨_,h⟩|rfl|⟨_,_,_,_,h⟩
 ·cases h
 ·show AV.list 1 (d.cs++[])=_;rw[V0]
 ·simp[Ai]at h
def C2k(h:SA [] dv):nl dv:=by
 rcases h with rfl|⟨_,rfl⟩
 ·exact .inr rfl
 ·exact .inl rfl
def C2l{a:AR}{l:List AR}(h:SA (a::l) dv):dv=DD (a::l):=by
 rcases h with rfl|⟨h,_⟩
 ·rfl
 ·cases h
end
end
section
set_option maxHeartbeats 100000000
variable{L n:Nat}
def A9w(J:200000<L):CS (r! L (n+85)) Rx [] (Bo true):=by
 intro K hK;have x:40000<L:=by omega
 have c1:∀{H K},Ap (r! L (n+84)) IB [z6,z6,(.v (.slice none 0 0)),(.v (.slice none 0 0))] H K=K (.agg gL.cs):=λ{H K}=>KG (m_A (n:=n+40) x) (Ao (q:=false) (λK=>by kernel_rfl) (Ao (q:=false) (λK=>by kernel_rfl) (Ao (q:=false) CC (Ao (q:=false) CC AH))));have c2:∀{H K},Ap (r! L (n+84)) IB [.agg [I 1,I 0,I 1,I 0,I 0,I 0],.agg [I 3,I 3,I 3,I 0,I 0,I 0],(.v (.slice none 0 0)),DD [lA]] H K=K (.agg NR.cs):=λ{H K}=>KG (m_X (n:=n+40) x) (Ao (q:=false) (λK=>by kernel_rfl) (Ao (q:=false) (λK=>by kernel_rfl) (Ao (q:=false) CC (Ao ((Mt _).fx H) AH))));have cw:∀{H K},Ap (r! L (n+84)) FK [.agg gL.cs] H K=K (S lA):=λ{H K}=>by
  rw[<-dY];exact AP (A02 (n:=n+20) x qT (show([]:List Ha).Nodup by decide)) (oN H)
 have b0:∀{K:K2},BP BA [] K=K z6:=λ{K}=>r_ rfl;have b1:∀{K:K2},BP BA [(0,1,(AV.v (.int .i64 1))),(1,1,(AV.v (.int .i64 0))),(2,1,(AV.v (.int .i64 1))),(3,1,(AV.v (.int .i64 0))),(4,1,(AV.v (.int .i64 0))),(5,1,(AV.v (.int .i64 0)))] K=K (.agg [I 1,I 0,I 1,I 0,I 0,I 0]):=λ{K}=>r_ rfl;have b3:∀{K:K2},BP BA [(0,1,(AV.v (.int .i64 3))),(1,1,(AV.v (.int .i64 3))),(2,1,(AV.v (.int .i64 3))),(3,1,(AV.v (.int .i64 0))),(4,1,(AV.v (.int .i64 0))),(5,1,(AV.v (.int .i64 0)))] K=K (.agg [I 3,I 3,I 3,I 0,I 0,I 0]):=λ{K}=>r_ rfl;have cf:∀{a:Ha}{K:K2},Zh 1 Ah 1 [(0,1,S a)] K=K (DD [a]):=λ{a K}=>by kernel_rfl
 have cg:∀{K:K2},Zh 68 Ae 2 [(0,68,.agg NR.cs),(68,68,.agg gL.cs)] K=K (.list 2 (gX.flatMap Cd.cs)):=λ{K}=>by kernel_rfl
 have ci:∀{K:K2},Zh 68 Ae 2 [(0,68,.agg gL.cs),(68,68,.agg NR.cs)] K=K (.list 2 ([PC.c gL,PC.c NR].flatMap PC.cells)):=λ{K}=>by kernel_rfl
 have cj:∀{K:K2},Zh 68 Ae 1 [(0,68,.agg NR.cs)] K=K (.list 1 NR.cs):=λ{K}=>by kernel_rfl
 rw[uN];unfold WU Qa Dk FQ A3 Kn Ga;obtain⟨H1,e1,ad,w1, -⟩:=Ip (e:=Ad) (zs:=CN) (vs:=gL.cs) FH EH;rw[b0,b0,c1,B1 (cs:=CN) rfl,BX (cs:=CN) (vs:=gL.cs) (Ax (by simp)) EH rfl MA,<-e1];generalize As []=a at ad;rw[b1,b3,Bu rfl EH.symm ad,cw,cf,c2];obtain⟨H2,e2,V,w2,k2⟩:=Ip (e:=Ad) (zs:=CN) (vs:=NR.cs) w1 EH;rw[B1 (cs:=CN) rfl,BX (cs:=CN) (vs:=NR.cs) (Ax (by simp)) EH rfl MA,<-e2];have a3:=(k2 _ _ ad).1;generalize As H1=b at V;clear e1 e2 k2 ad w1;rw[Bu rfl EH.symm V,Bu rfl EH.symm a3,cg];refine A0H (n:=n+17) x XJ (z:=3) ⟨by decide,by decide⟩ (.inl rfl) w2 λr1 m1 g s3 d9 l3=>?_;rw[B4D]at s3;rw[GX,Zg,B61 (n:=n+83)];have w3:=l3.wf w2;obtain⟨t4,w4,k4⟩:=B0z w3;have n4:As ((As g+1,c_ D0 [.mp (As g)])::(As g,.map false [] none)::g)=As g+2:=rfl;have ay:∀u y,Ai H2 u=some y->Ai ((As g+1,c_ D0 [.mp (As g)])::(As g,.map false [] none)::g) u=some y:=λu y M=>k4 u y (l3.keep w2 u y M id);have a4:=ay _ _ a3;have X:=ay _ _ V;have s4:=s3.keep k4;have lb:=w2.lt V;have lr:=w3.lt s3.st;have lm:=w3.lt s3.mm;have de:=l3.nx;generalize ((As g+1,c_ D0 [.mp (As g)])::(As g,.map false [] none)::g:Hp)=H4 at t4 w4 n4 a4 X s4;have da:As g+1≠As g:=by omega
 generalize ea:As g=m2 at t4 n4 lr lm de da;generalize m2+1=r2 at t4;have pC:∀{K},AD Ac (.ptr b 31 0) H4 K=K (DD [lA]):=λ{K}=>AF (p:=31) rfl X (show 31<68 by decide);have df:∀{a:Ha}{K:K2},Bh Ac (DD [a]) K=K (.v (.int .i64 1)):=λ{a K}=>r_ rfl;have R:∀{K:K2},Ar Ab .neq (.v (.int .i64 1)) (.v (.int .i64 1)) K=K (Bo false):=λ{K}=>by kernel_rfl
 have un:∀{q:Bool}{K:K2},MC .not (Bo q) K=K (Bo (!q)):=λ{q K}=>Eh;have dr:∀{F:K2},R6 BL CX .eql (.ptr r1 0 0) (.v (.pointer none)) F=F (Bo false):=λ{F}=>s4.sv.nn;have dt:∀{F:K2},R6 BL CX .eql (.ptr r2 0 0) (.v (.pointer none)) F=F (Bo false):=λ{F}=>t4.sv.nn;simp only[un,Bool.not_true,dr,dt,Po,pC,df,R,gT,zX,iW,Cb,UV,RC];rw[AZ,Bu rfl EH.symm a4,Bu rfl EH.symm X,ci];refine C1S (n:=n+19) (l:=[PC.c gL,PC.c NR]) (λp hp=>?_) (by decide) x (.inr (.inl rfl)) w4 λd4 H5 j d6=>?_
 ·simp only[Xh,List.not_mem_nil,or_false]at hp;rcases hp with rfl|rfl
  ·exact⟨qT,by rw[kU];decide⟩
  ·exact⟨A3z,by rw[Wa];decide⟩
 have cz:[PC.c gL,PC.c NR].map PC.id=[lA,lX]:=by
  show[gL.id,NR.id]=_;rw[dY,kT]
 rw[cz]at j;have w5:=j.wf;have af:=j.new;have du:=j.nx;have k5:=j.keep;rcases j.sl with⟨_,h,_⟩|⟨nr,q5,N,be,_⟩
 ·cases h
 have N:d4=.sl 1 nr 0 2:=N;subst N;have d8:As H4<=nr:=af nr ⟨_,_,_,rfl⟩;rw[B3d (n:=n+1) XJ J (s4.keep k5).sv,B57];obtain⟨H6,e6,a5,w6,k6⟩:=Ip (e:=Ay) (zs:=[I 0,Av,Av]) (vs:=[I 1,DD [lX],Av]) w5 rfl;rw[B1 (cs:=[I 0,Av,Av]) rfl,BX (cs:=[I 0,Av,Av]) (vs:=[I 1,DD [lX],Av]) (Ax (by simp)) rfl rfl rfl,<-e6];have Q:∀u y,Ai H5 u=some y->Ai H6 u=some y:=λu y M=>(k6 u y M).1;have eb:As H5≠m2:=by omega
 have ae:Sn b nr (As H5) r1 m1 m2 H6:=⟨w6,Q _ _ (k5 _ _ X),⟨q5,Q _ _ be⟩,a5,(s4.keep k5).keep Q,by omega,by omega,by omega,by omega,by omega⟩
 have t6:=(t4.keep k5).keep Q;generalize As H5=pq at ae a5;clear e6 k6 Q w6 a5 be w5 af du k5 s4 t4 a4 X w4 n4 ay k4 w3 s3 l3 a3 V w2 j d6;have hh:∀{H:Hp},PkS H (.agg [I 1,DD [lX],Av]) ⟨1,[lX],[]⟩:=λ{H}=>⟨_,_,rfl,.inl (Mt _),.inl ⟨rfl,rfl⟩,λh=>by cases h⟩
 have gN:GOk []:=⟨by simp,by simp,List.nodup_nil,by decide⟩
 have gS:=B66.ok XJ;have rh:Pk.Right ⟨1,[lX],[]⟩:=rX _ (by decide) (by decide) (by decide) (.inl ⟨rfl,.inl rfl⟩);rw[Bu rfl rfl ae.pk];refine A5k (PP:=λa=>a=_) (n:=n) (A:=[]) (q:=⟨1,[lX],[]⟩) J gN rh rfl ae.wf t6 hh (by decide) λH7 t7 l7=>?_;rw[C2t];show(_:Af)=_;have d:=ae.kp l7;have f1:∀{H:Hp},Fx true depth (.agg [I 1,DD [lX],Av]) (.agg [I 1,DD [lX],Av]) H false:=λ{H}K=>by kernel_rfl
 have f2:∀{H:Hp},Fx true depth (.agg [I 2,DD [lX],Av]) (.agg [I 2,DD [lX],Av]) H false:=λ{H}K=>by kernel_rfl
 have fS:∀{H:Hp}{D:Nat},(∃q,Ai H nr=some (.cells q Aq [S lA,S lX]))->Fx true (D+1) (.sl 1 nr 1 1) (DD [lX]) H true:=λ{H D} ⟨q,h⟩=>Xn (q':=false) h (by decide) (VD [lX]);have fT:∀{H:Hp}{D:Nat},(∃q,Ai H nr=some (.cells q Aq [S lA,S lX]))->Fx true (D+1) (.sl 1 nr 0 1) (DD [lA]) H true:=λ{H D} ⟨q,h⟩=>Xn (q':=false) h (by decide) (VD [lA]);have fU:∀{H:Hp}{D:Nat},(∃q,Ai H nr=some (.cells q Aq [S lA,S lX]))->Fx true (D+1) (.sl 1 nr 0 2) (DD [lA,lX]) H true:=λ{H D} ⟨q,h⟩=>Xn (q':=false) h (by decide) (VD [lA,lX]);have fP:∀{H:Hp}{z:Int}{v w:AV},Fx true 11 v w H true->Fx true depth (.agg [I z,v,Av]) (.agg [I z,w,Av]) H true:=λ{H z v w}h=>LF (D:=11) (Ao (q:=false) CC (Ao (q:=true) (q':=false) h (Ao (q:=false) CC AH)));have bq:∀{K:K2},Es Ac (.sl 1 nr 0 2) (some (.v (.int .i64 1))) none none K=K (.sl 1 nr 1 1):=λ{K}=>ZC (i:=1) (m:=2) (by decide);have dx:∀{K:K2},Es Ac (.sl 1 nr 0 2) none (some (.v (.int .i64 1))) none K=K (.sl 1 nr 0 1):=λ{K}=>ZD (i:=1) (m:=2) (by decide);have cm:∀{K:K2},BP A5 [(0,1,(AV.v (.int .i64 1))),(1,1,.sl 1 nr 1 1)] K=K (.agg [I 1,.sl 1 nr 1 1,Av]):=λ{K}=>by kernel_rfl
 have cp:∀{K:K2},BP A5 [(0,1,(AV.v (.int .i64 2))),(1,1,.sl 1 nr 1 1)] K=K (.agg [I 2,.sl 1 nr 1 1,Av]):=λ{K}=>by kernel_rfl
 have cq:∀{K:K2},BP A5 [(0,1,(AV.v (.int .i64 2))),(1,1,.sl 1 nr 0 1)] K=K (.agg [I 2,.sl 1 nr 0 1,Av]):=λ{K}=>by kernel_rfl
 have cu:∀{K:K2},BP A5 [(0,1,(AV.v (.int .i64 3))),(2,1,.list 1 NR.cs)] K=K (.agg [I 3,Av,.list 1 NR.cs]):=λ{K}=>by kernel_rfl
 have d7:∀{K:K2},AD A5 (.ptr pq 0 0) H7 K=K (.agg [I 1,DD [lX],Av]):=λ{K}=>Bu rfl rfl d.pk;have a7:∀{K:K2},Ap (r! L (n+84)) Da [.agg [I 1,DD [lX],Av],.agg [I 1,.sl 1 nr 1 1,Av]] H7 K=K (Bo true):=λ{K}=>RK (s_h (n:=n+74)) (Ao f1 (Ao (fP (fS d.nm)) AH));have c7:∀{K:K2},Ap (r! L (n+84)) Da [.agg [I 2,DD [lX],Av],.agg [I 2,.sl 1 nr 1 1,Av]] H7 K=K (Bo true):=λ{K}=>RK (s_1 (n:=n+74) (.inl rfl)) (Ao f2 (Ao (fP (fS d.nm)) AH));have dm:∀{K:K2},Bh AQ (xL [⟨2,[lX],[]⟩]) K=K (.v (.int .i64 1)):=λ{K}=>r_ rfl;have bf:∀{K:K2},DC AQ (xL [⟨2,[lX],[]⟩]) (.v (.int .i64 0)) K=K (.iptr [I 2,DD [lX],Av]):=λ{K}=>by kernel_rfl
 have bh:∀{H:Hp}{K:K2},AD A5 (.iptr [I 2,DD [lX],Av]) H K=K (.agg [I 2,DD [lX],Av]):=λ{H K}=>r_ rfl;simp only[Bw,d7,bq,cm,a7,un,Bool.not_true,gT,zX,iW,Cb,dm,R,UV,RC,bf,bh,cp,c7];rw[AZ];have h2:PkS H7 (.agg [I 2,DD [lX],Av]) ⟨2,[lX],[]⟩:=⟨_,_,rfl,.inl (Mt _),.inl ⟨rfl,rfl⟩,λh=>by cases h⟩
 refine UZ (n:=n) (A:=gX) (q:=⟨2,[lX],[]⟩) J XJ (by simp) d.wf d.sx h2 (by decide) (λh=>by cases h) (by decide) (by rw[A9F];exact XJ) (by rw[A9F];decide) λb5 H8 s8 p8 l8=>?_;rw[A9F]at s8 p8;have l8:=d.sx.lat s8 l8;have a6:=d.kp l8.no;have t8:=t7.kp l8 d.wf;obtain⟨bn,w8,ap,aa,ar⟩:=p8.ptr (i:=0) (by decide);have ap:∀F:K2,DC AQ b5 (.v (.int .i64 0)) F=F bn:=ap;have aa:PkS H8 w8 ⟨3,[],[.c NR]⟩:=aa;have ar:∀F:K2,AD A5 bn H8 F=F w8:=ar H8 λu y _ M=>M;have dh:∀F:K2,Bh AQ b5 F=F (.v (.int .i64 1)):=λF=>p8.len;have b8:∀{K:K2},AD Ae (.ptr b 0 0) H8 K=K (.agg NR.cs):=λ{K}=>Bu rfl EH.symm a6.cb;have a8:∀{K:K2},Ap (r! L (n+84)) Da [w8,.agg [I 3,Av,.list 1 NR.cs]] H8 K=K (Bo true):=λ{K}=>by
  obtain⟨dv,cv,qq,sd,sc,fw⟩:=aa.fx;rw[C4e sc]at fw;exact RK (s_2 (n:=n+20) (C2k sd)) (Ao fw (Ao (q:=false) (LF (D:=11) (Ao (q:=false) CC (Ao (q:=false) CC (Ao (q:=false) OI AH)))) AH))
 simp only[dh,R,Bw,gT,zX,iW,Cb,UV,RC,ap,ar,b8,cj,cu,a8,un,Bool.not_true];rw[AZ];refine UZ (n:=n) (A:=[]) (q:=⟨3,[],[.c NR]⟩) J gN (λp hp=>by
  rw[YR]at hp;rw[hp];exact⟨A3z,by rw[Wa];decide⟩) a6.wf t8 aa (by decide) (λh=>by cases h) (by decide) (by rw[A9E];exact gS) (by rw[A9E];decide) λaj H9 t9 p9 l9=>?_
 rw[A9E]at t9 p9;have k:=a6.kp l9;obtain⟨bo,w9,aq,ab,ax⟩:=p9.ptr (i:=0) (by decide);have aq:∀F:K2,DC AQ aj (.v (.int .i64 0)) F=F bo:=aq;have ab:PkS H9 w9 ⟨2,[lA],[]⟩:=ab;have ax:∀F:K2,AD A5 bo H9 F=F w9:=ax H9 λu y _ M=>M;have dj:∀F:K2,Bh AQ aj F=F (.v (.int .i64 1)):=λF=>p9.len;have ce:∀{K:K2},JR (r! L (n+84)) BS [.ptr r2 0 0] H9 K=K Av:=λ{K}=>by rw[A0U (n:=n+2) gS J t9.sv,C1b];rfl
 have d5:∀{K:K2},Ap (r! L (n+84)) Ck [.ptr r2 0 0] H9 K=K (DD [lX]):=λ{K}=>by
  rw[Zq (n:=n+1) gS J t9.sv];unfold UX;rw[CF (by simp),B2U];rfl
 have dn:∀{K:K2},Bh Ak Av K=K (.v (.int .i64 0)):=λ{K}=>r_ rfl;have Z:∀{K:K2},Ar Ab .eql (.v (.int .i64 0)) (.v (.int .i64 0)) K=K (Bo true):=λ{K}=>by kernel_rfl
 have dy:∀{K:K2},Ap (r! L (n+84)) Dr [DD [lX],.sl 1 nr 1 1] H9 K=K (Bo true):=λ{K}=>RK (C53 (n:=n+74)) (Ao ((Mt _).fx H9) (Ao (fS (D:=11) k.nm) AH));have a9:∀{K:K2},Ap (r! L (n+84)) Da [w9,.agg [I 2,.sl 1 nr 0 1,Av]] H9 K=K (Bo true):=λ{K}=>by
  obtain⟨dv,cv,qq,sd,sc,fw⟩:=ab.fx;rw[C2l sd]at fw;exact RK (s_3 (n:=n+74) (C0W sc)) (Ao fw (Ao (fP (fT k.nm)) AH))
 simp only[ce,dn,Z,d5,bq,dy,dj,R,Bw,gT,zX,iW,Cb,UV,RC,aq,ax,dx,cq,a9,un,Bool.not_true];rw[AZ];refine UZ (n:=n) (A:=gX) (q:=⟨2,[lA],[]⟩) J XJ (by simp) k.wf k.sx ab (by decide) (λh=>by cases h) (by decide) (by rw[A9D];exact XJ) (by rw[A9D];decide) λak am bp az ac=>?_;rw[A9D]at bp az;have ac:=k.sx.lat bp ac;have ah:=k.kp ac.no;have dz:=t9.kp ac k.wf;obtain⟨ag,b7,B,O,C⟩:=az.ptr (i:=0) (by decide);have B:∀F:K2,DC AQ ak (.v (.int .i64 0)) F=F ag:=B;have O:PkS am b7 ⟨3,[],[.c gL]⟩:=O;have C:∀F:K2,AD A5 ag am F=F b7:=C am λu y _ M=>M;have bj:∀F:K2,Bh AQ ak F=F (.v (.int .i64 1)):=λF=>az.len;rw[bj,R,AZ,B,C];refine UZ (n:=n) (A:=[NR]) (q:=⟨3,[],[.c gL]⟩) J gS (λp hp=>by
  rw[YR]at hp;rw[hp];exact⟨qT,by rw[kU];decide⟩) ah.wf dz O (by decide) (λh=>by cases h) (by decide) (by rw[A9C];exact XJ) (by rw[A9C];decide) λbv ao ba bm db=>?_
 rw[A9C]at ba bm;have Y:=ah.kp db;have bk:∀F:K2,Bh AQ bv F=F (.v (.int .i64 0)):=λF=>bm.len;have ids:∀{F:KV},(∀v f,NewSl ao [lA,lX] v f->F v f=some (Bo true,[]))->Dy ((r! L (n+84)).call TJ [.ptr r2 0 0] ao λv H=>some (v,H)) F=some (Bo true,[]):=λ{F}hF=>
  B7a (n:=n+1) (K:=λv H=>some (v,H)) (PP:=λa=>Dy a F=some (Bo true,[])) XJ J ba.sv Y.wf λv f j _=>by
   rw[C04]at j;exact hF v f j
 simp only[bk,Z,Bw,gT,zX,iW,Cb,UV,RC];refine ids λbx t j=>?_;have bg:Lat ao t (λ_=>False):=⟨λ_=>j.wf,j.nx,λ_ u y M _=>j.keep u y M⟩
 have r:=Y.kp bg.no;have bu:=ba.kp bg Y.wf;have bt:∀{K:K2},Ap (r! L (n+84)) Dr [bx,.sl 1 nr 0 2] t K=K (Bo true):=λ{K}=>by
  obtain⟨a,q,ha,hf⟩:=NB.fx (j.sat λh=>by cases h) (D:=11);rw[C2l ha]at hf;exact RK (C52 (n:=n+74)) (Ao hf (Ao (fU (D:=11) r.nm) AH))
 have b9:∀{K:K2},Ap (r! L (n+84)) Ck [.ptr r2 0 0] t K=K (.list 0 []):=λ{K}=>by
  rw[Zq (n:=n+1) XJ J bu.sv];unfold UX;rw[CF (by simp[gX]),B2V];rfl
 have dq:∀{K:K2},Bh Ac (.list 0 []) K=K (.v (.int .i64 0)):=λ{K}=>r_ rfl;have cx:∀{K:K2},AD A5 (.ptr pq 0 0) t K=K (.agg [I 1,DD [lX],Av]):=λ{K}=>Bu rfl rfl r.pk;have dw:∀{F:KV},(∀f,StAt f r2 m2 gX->Lat t f (λu=>u=m2)->F Av f=some (Bo true,[]))->Dy ((r! L (n+84)).call BO [.ptr r2 0 0,.agg [I 1,DD [lX],Av]] t λv H=>some (v,H)) F=some (Bo true,[]):=λ{F}hF=>
  A5k (n:=n) (A:=gX) (q:=⟨1,[lX],[]⟩) (K:=λv H=>some (v,H)) (PP:=λa=>Dy a F=some (Bo true,[])) J XJ rh rfl r.wf bu hh (by decide) λf s l=>by
   rw[C2s];exact hF f s l
 simp only[bt,b9,dq,Z,cx,Bw,gT,zX,iW,Cb,UV,RC];refine dw λbc d3 dc=>?_;have ai:=r.kp dc;have dp:∀{K:K2},Bh AQ Av K=K (.v (.int .i64 0)):=λ{K}=>r_ rfl;have bz:∀{K:K2},BP Ae [] K=K (.agg CN):=λ{K}=>by kernel_rfl
 have put:∀{F:KV},(∀f,StAt f r2 m2 gX->Lat bc f (λu=>u=m2)->F (I 280) f=some (Bo true,[]))->Dy ((r! L (n+84)).call XA1 [.ptr r2 0 0,.agg CN] bc λv H=>some (v,H)) F=some (Bo true,[]):=λ{F}hF=>
  A8V (n:=n+18) (p:=.z) (A:=gX) (K:=λv H=>some (v,H)) (P:=λa=>Dy a F=some (Bo true,[])) x trivial ai.wf d3 (by decide) λf s l=>hF f s l
 simp only[dp,Z,bz,Bw,gT,zX,iW,Cb,UV,RC];refine put λbd ec dd=>?_;have bs:=ai.kp dd;have c0:∀{K:K2},Ar Ab .eql (I 280) (.v (.int .i64 280)) K=K (Bo true):=λ{K}=>by kernel_rfl
 have cy:∀{K:K2},AD A5 (.ptr pq 0 0) bd K=K (.agg [I 1,DD [lX],Av]):=λ{K}=>Bu rfl rfl bs.pk;have cc:∀{K:K2},Ap (r! L (n+84)) Da [.agg [I 1,DD [lX],Av],.agg [I 2,DD [lX],Av]] bd K=K (Bo false):=λ{K}=>RK (s_n (n:=n+74) (.inl rfl)) (Ao f1 (Ao f2 AH));simp only[c0,cy,bf,bh,cc,un,Bool.not_false,Bw,gT,zX,iW,Cb,UV,RC];exact hK _ _ λb=>⟨false,CC⟩
end
section
variable{L n:Nat}
def Kc(H H':Hp):Prop:=∀u q e cs,e≠Ay->Ai H u=some (.cells q e cs)->Ai H' u=some (.cells q e cs)
section
variable{H H0 H' H'':Hp}{v x:AV}{A Y:ed}{K:KV}{x0:Af}{r m:Nat}{ws us:List Pk}{ps ss:PV}
def Kc.refl:Kc H H:=λ_ _ _ _ _ h=>h
def Kc.trans(h:Kc H H')(k:Kc H' H''):Kc H H'':=λu q e cs he a=>k u q e cs he (h u q e cs he a)
theorem Kc.map{b:IH}{q:Bool}{o}(k:Lat H H' (λu=>u=m))(w:Wf H)(h:Ai H m=some (.map q b o)):Kc H H':=λu q e cs _ a=>k.keep w u _ a λc=>by
 rw[c,h]at a;cases a
structure Pls(H:Hp)(v:AV)(ps:PV):Prop where
 ok:∀p∈ps,PvOk H p
 at_:(v=Av/\ps=[])\/∃r q tl,v=.sl 3 r 0 ps.length/\Ai H r=some (.cells q Ay (ps.flatMap pvC++tl))
end
end
section
variable{u:Nat}
variable{L n:Nat}
section
variable{H H0 H' H'':Hp}{v x v1 v2:AV}{gs A B:ed}{K:KV}{x0:Af}{r m ra ma rb mb N:Nat}{ws us:List Pk}{p1 p2 ss:PV}
def Pls.row(h:Pls H v p1)(b:A9 v u):∃q cs,Ai H u=some (.cells q Ay cs):=by
 rcases h.at_ with⟨rfl,_⟩|⟨r,q,d,rfl,c⟩
 ·exact absurd b (by simp[A9])
 ·obtain⟨_,_,_,a⟩:=b;injection a with _ a
  subst a;exact⟨q,_,c⟩
theorem Pls.lt(h:Pls H v p1)(w:Wf H)(b:A9 v u):u<As H:=by
 obtain⟨q,cs,a⟩:=h.row b;exact w.lt a
end
end
section
variable{L n:Nat}
section
variable{H H0 H' H'':Hp}{v x v1 v2:AV}{gs A B:ed}{K:KV}{x0:Af}{r m ra ma rb mb N:Nat}{ws us:List Pk}{p1 p2 ss ps:PV}
end
end
section
set_option maxHeartbeats 4000000
variable{L n:Nat}
section
variable{H H0 H' H'':Hp}{v x v1 v2:AV}{gs A B:ed}{K:KV}{x0:Af}{r m ra ma rb mb N:Nat}{ws us:List Pk}{p1 p2 ss ps:PV}
end
end
section
variable{L n:Nat}
section
variable{K:KV}
def B26(a:200000<L):∀(H:Hp)(K:K2),Ap (r! L (n+86)) Rx [] H K=K (Bo true):=λH K=>AP (A9w (n:=n+1) a) AH
end
end
section
variable{v:AV}{F:K2}{e e' m s sz:Nat}{y:Row}
variable{L n:Nat}
section
variable{H H0 H':Hp}{dv cv a:AV}{K:KV}{x0:Af}{p:Nat}{q:Pk}{gs:ed}
structure PkR(H0 H:Hp)(p:Nat)(q:Pk)(dv cv:AV):Prop where
 row:Ai H p=some (c_ Ay [I q.kd,dv,cv])
 ds:Bk H Aq 1 dv q.ds.length (AE q.ds)
 cs:Bk H Ad 68 cv q.cs.length (q.cs.flatMap PC.cells)
 d0:q.ds=[]->dv=Av
 w0:Wf H0
 wf:Wf H
 nx:As H0<=As H
 fr:∀u y,Ai H0 u=some y->Ai H u=some y
 ip:As H0<=p
 id:∀u,A9 dv u->As H0<=u
 ic:∀u,A9 cv u->As H0<=u
def Bk.el{cs cs':Is}{b:Bool}(h:Bk H e sz v m cs)(c:Ai H s=some (.cells b e' cs'))(hn:e≠e'):¬A9 v s:=by
 rintro⟨_,_,_,rfl⟩;rcases h with⟨h,_⟩|⟨r,q,h1,h2,_⟩
 ·cases h
 ·injection h1 with _ h1
  subst h1;rw[c]at h2;injection h2 with h2
  injection h2 with _ h2
  exact hn h2.symm
def Bk.no{e e' sz b m f s:Nat}{v w:AV}{cs cs':Is}(h:Bk H e sz v m cs)(k:Bk H e' b w f cs')(hn:e≠e')(c:A9 w s):¬A9 v s:=by
 obtain⟨_,_,_,rfl⟩:=c;rcases k with⟨k,_⟩|⟨r,q,k1,d,_⟩
 ·cases k
 ·injection k1 with _ k1
  subst k1;exact h.el d hn
def Bk.up{cs:Is}(h:Bk H e sz v m cs)(hn:¬A9 v p):Bk (upd H p y) e sz v m cs:=
 h.kp λs x c b=>by
  have e:s≠p:=λe=>hn (by rw[<-e];exact c);rw[Ag e];exact b
def PkR.ne(h:PkR H0 H p q dv cv){u:Nat}(b:Ai H0 u=some y):u≠p:=λe=>by
 have:=h.w0.lt b;have:=h.ip;omega
def PkR.kind(h:PkR H0 H p q dv cv)(k:Int):∃H',(∀F:Ru,DF Ab (.ptr p 0 0) (I k) H F=F H')/\PkR H0 H' p ⟨k,q.ds,q.cs⟩ dv cv:=by
 refine⟨_,λF=>D6 h.row (by simp) rfl rfl rfl,?_⟩;have c:=AC (q:=true) (e:=Ay) (cs:=[I k,dv,cv]) h.row;exact⟨c,h.ds.up (h.ds.el h.row (by decide)),h.cs.up (h.cs.el h.row (by decide)),h.d0,h.w0,Bj h.wf,by rw[B4];exact h.nx,λu y b=>by rw[Ag (h.ne b)];exact h.fr u y b,h.ip,h.id,h.ic⟩
def PkR.addD(h:PkR H0 H p q dv cv)(b:AR)(M:q.ds.length<1000):∃c g d k,(∀K:KV,FU Aq 1 Ah 1 [(0,1,S b)] H K=K (.sl 1 (As H) 0 1) g)/\(∀K:KV,DK Aq 1 Ah Ac dv (.sl 1 (As H) 0 1) g K=K c d)/\(∀F:Ru,DF Ac (.ptr p 1 0) c d F=F k)/\
 (∀F:K2,AD Ac (.ptr p 1 0) g F=F dv)/\PkR H0 k p ⟨q.kd,q.ds++[b],q.cs⟩ c cv:=by
 obtain⟨j,d,a1,a2,r,J,i,t⟩:=wE (ie:=Ah) (i2:=Ac) (ys:=AE [b]) h.ds h.wf rfl rfl (by decide) rfl (λ_=>rfl) (by show(_+1)*16<=_;omega) (by omega);have r2:=i p _ h.row (h.ds.el h.row (by decide));have A:=h.wf.lt h.row;have D:=A7 (x:=.cells false Aq (AE [b])) A h.row;have e:AE q.ds++AE [b]=AE (q.ds++[b]):=by simp[AE]
 rw[e]at a2;refine⟨j,_,d,_,λK=>ZJ,a1,λF=>D6 r2 (by simp) rfl (Bk.cell a2) (Bk.one a2),λF=>AF (p:=1) rfl D (by simp),?_⟩;have hr:=AC (q:=true) (e:=Ay) (cs:=[I q.kd,j,cv]) r2;have c2:Bk d Ad 68 cv q.cs.length (q.cs.flatMap PC.cells):=h.cs.kp λs x B C=>i s x C (h.ds.no h.cs (by decide) B);refine⟨hr,?_,c2.up (c2.el r2 (by decide)),λe=>absurd e (by simp),h.w0,Bj r,by rw[B4];have:=h.nx;omega,λu y f=>?_,h.ip,λu f=>?_,h.ic⟩
 ·have:=Bk.up (y:=.cells true Ay [I q.kd,j,cv]) a2 (Bk.el a2 r2 (by decide));rw[EK];exact this
 ·rw[Ag (h.ne f)];refine i u y (h.fr u y f) λw=>?_;have:=h.id u w;have:=h.w0.lt f;omega
 ·have:=t u f;have:=h.nx;omega
def PkR.addC(h:PkR H0 H p q dv cv)(b:PC)(M:q.cs.length<1000):∃c g d k,(∀K:KV,FU Ad 68 Ae 1 [(0,68,.agg b.cells)] H K=K (.sl 68 (As H) 0 1) g)/\(∀K:KV,DK Ad 68 Ae Ak cv (.sl 68 (As H) 0 1) g K=K c d)/\(∀F:Ru,DF Ak (.ptr p 2 0) c d F=F k)/\
 (∀F:K2,AD Ak (.ptr p 2 0) g F=F cv)/\PkR H0 k p ⟨q.kd,q.ds,q.cs++[b]⟩ dv c:=by
 obtain⟨j,d,a1,a2,r,J,i,t⟩:=wE (ie:=Ae) (i2:=Ak) (ys:=b.cells) h.cs h.wf b.len b.one (by decide) rfl (λ_=>rfl) (by show(_+1)*800<=_;omega) (by omega);have r2:=i p _ h.row (h.cs.el h.row (by decide));have A:=h.wf.lt h.row;have D:=A7 (x:=.cells false Ad b.cells) A h.row;have e:q.cs.flatMap PC.cells++b.cells=(q.cs++[b]).flatMap PC.cells:=by simp
 rw[e]at a2;refine⟨j,_,d,_,λK=>C11 b.len b.one,a1,λF=>D6 r2 (by simp) rfl (Bk.cell a2) (Bk.one a2),λF=>AF (p:=2) rfl D (by simp),?_⟩;have hr:=AC (q:=true) (e:=Ay) (cs:=[I q.kd,dv,j]) r2;have c2:Bk d Aq 1 dv q.ds.length (AE q.ds):=h.ds.kp λs x B C=>i s x C (h.cs.no h.ds (by decide) B);refine⟨hr,c2.up (c2.el r2 (by decide)),?_,h.d0,h.w0,Bj r,by rw[B4];have:=h.nx;omega,λu y f=>?_,h.ip,h.id,λu f=>?_⟩
 ·have:=Bk.up (y:=.cells true Ay [I q.kd,dv,j]) a2 (Bk.el a2 r2 (by decide));rw[EK];exact this
 ·rw[Ag (h.ne f)];refine i u y (h.fr u y f) λw=>?_;have:=h.ic u w;have:=h.w0.lt f;omega
 ·have:=t u f;have:=h.nx;omega
def PkR.pks(h:PkR H0 H p q dv cv):PkS H (.agg [I q.kd,dv,cv]) q:=by
 refine⟨dv,cv,rfl,.inr (Bk.rq h.ds),?_,h.d0⟩;rcases h.cs with⟨h1,h2,_⟩|⟨r,b,h1,h2,_⟩
 ·exact .inl ⟨h1,mH h2⟩
 ·exact .inr (.inr ⟨r,b,[],h1,by rw[V0];exact h2⟩)
def PkR.ldk(h:PkR H0 H p q dv cv):AD Ab (.ptr p 0 0) H F=F (I q.kd):=AF (p:=0) rfl h.row (by simp)
def PkR.ldd(h:PkR H0 H p q dv cv):AD Ac (.ptr p 1 0) H F=F dv:=AF (p:=1) rfl h.row (by simp)
def PkR.ldc(h:PkR H0 H p q dv cv):AD Ak (.ptr p 2 0) H F=F cv:=AF (p:=2) rfl h.row (by simp)
def PkR.lda(h:PkR H0 H p q dv cv):AD A5 (.ptr p 0 0) H F=F (.agg [I q.kd,dv,cv]):=Bu rfl rfl h.row
end
end
section
variable{L n:Nat}
def Uq(kd:Int)(A:ed):Pk:=if kd=3 then⟨kd,[],A.map .c⟩ else⟨kd,A.map Cd.id,[]⟩
def P'{kd:Int}{A:ed}:(Uq kd A).kd=kd:=by unfold Uq;split<;>rfl
section
variable{H H0 H':Hp}{dv cv a:AV}{K:KV}{x0:Af}{p r1 r3:Nat}{gs:ed}{kd z tw:Int}
def C17{i:Nat}:((pk z 1048576).fdiv (2^i)).tmod 2=0\/((pk z 1048576).fdiv (2^i)).tmod 2=1:=by
 have h1:=(EN (c:=z) (n:=1048576) (by decide)).1;have b:(0:Int)<2^i:=Int.pow_pos (by decide);have h2:0<=(pk z 1048576).fdiv (2^i):=Int.fdiv_nonneg h1 (by omega);rw[Int.tmod_eq_emod_of_nonneg h2];omega
theorem A3R{k:AV->AV->KV}(D:40000<L)(t:GOk gs)(hz:J7 z)(s:LA gs a)(J:Ai H0 r1=some (c_ AS [I kd,I z,I tw])){d:Int}(O:∀dv cv H,PkR H0 H p (Uq d (Mp z 0 gs)) dv cv->k (.ptr r1 0 0) (.ptr r3 0 0) (.ptr p 0 0) H=x0):
 ∀(fuel i:Nat)(b:ed)(dv cv:AV)(H:Hp),gs.length<fuel+i->i<=gs.length->b++Mp z i (gs.drop i)=Mp z 0 gs->b.length<=i->PkR H0 H p (Uq d b) dv cv->
  MV (L+20) (r! L (n+65)) K k fuel a (.ptr r1 0 0) (.ptr r3 0 0) (.ptr p 0 0) (I i) H=x0
 |0,i,b,dv,cv,H,h1,h2,_,_,_=>by omega
 |fuel+1,i,b,dv,cv,H,h1,h2,h,Z,hq=>by
  rw[iM];unfold QR Dz Km A3;have V:=t.len;rw[s.len];simp only[BE];by_cases u:i<gs.length
  ·rw[Fz (by omega),Cu];have Y:∀{F:K2},AD Ab (.ptr r1 1 0) H F=F (I z):=λ{F}=>AF (p:=1) rfl (hq.fr _ _ J) (by simp);have X:∀{H:Hp}{F:K2},Ap (r! L (n+65)) EE [I z,(AV.v (.int .i64 1048576))] H F=F (I (pk z 1048576)):=λ{H F}=>(gZ (n:=n+64) hz (by decide) (by decide)) H F;have w:∀{F:K2},Ar Ab .rem (I ((pk z 1048576).fdiv (2^i))) (AV.v (.int .i64 2)) F=F (I (((pk z 1048576).fdiv (2^i)).tmod 2)):=λ{F}=>Q9 (by decide);rw[Po,Y,X,A9r (by omega),w,Cl];have M:gs.drop i=gs[i]::gs.drop (i+1):=uZ u;rw[M,Wo]at h;rcases C17 (z:=z) (i:=i) with hb|hb
   ·have m:A2v z i=false:=HW (by rw[hb];decide);rw[m]at h;rw[HR hb,Cu,Db (by omega)];exact A3R D t hz s J O fuel (i+1) b dv cv H (by omega) (by omega) (by simpa using h) (by omega) hq
   ·have m:A2v z i=true:=HR hb;rw[Dq m]at h;rw[HW (by rw[hb];decide),AZ,Po,hq.ldk,P',Cl];have nx:∀(q:Pk)(g f:AV)(j:Hp),q=Uq d (b++[gs[i]])->PkR H0 j p q g f->(Ar Ab .add (I i) (AV.v (.int .i64 1)) λP=>MV (L+20) (r! L (n+65)) K k fuel a (.ptr r1 0 0) (.ptr r3 0 0) (.ptr p 0 0) P j)=x0:=λq g f j e hr=>by
     subst e;rw[Db (by omega)];exact A3R D t hz s J O fuel (i+1) (b++[gs[i]]) g f j (by omega) (by omega) (by rw[<-h];simp) (by simp;omega) hr
    by_cases r:d=3
    ·have B:Uq d b=⟨d,[],b.map .c⟩:=Dq r;have C:Uq d (b++[gs[i]])=⟨d,[],b.map .c++[.c gs[i]]⟩:=by unfold Uq;rw[Dq r,Z6];rfl
     rw[B]at hq;obtain⟨f,Q,R,j,a1,a2,x,y,A⟩:=hq.addC (.c gs[i]) (by simp;omega);have a1:∀K:KV,FU Ad 68 Ae 1 [(0,68,.agg gs[i].cs)] H K=K (.sl 68 (As H) 0 1) Q:=a1;rw[HR r,Cu];simp only[Po,Bw,hq.ldc,s.ia u,nH,a1,Cb,a2,x,y];rw[okS (rO hq.cs)];exact nx _ dv f j C.symm A
    ·have B:Uq d b=⟨d,b.map Cd.id,[]⟩:=CF r;have C:Uq d (b++[gs[i]])=⟨d,b.map Cd.id++[gs[i].id],[]⟩:=by unfold Uq;rw[CF r,Z6];rfl
     rw[B]at hq;obtain⟨g,Q,R,j,a1,a2,x,y,A⟩:=hq.addD gs[i].id (by simp;omega);have N:∀{F:K2},Ap (r! L (n+65)) FK [.agg gs[i].cs] H F=F (S gs[i].id):=λ{F}=>AP (A02 (n:=n+1) D (t.ok _ (Qk u)) (t.nd _ (Qk u))) (oN H);rw[HW r,AZ];simp only[Po,Bw,hq.ldd,s.ia u,nH,N,a1,Cb,a2,x,y];rw[okS (rO hq.ds)];exact nx _ g cv j C.symm A
  ·rw[Fp (by omega),AZ];rw[List.drop_of_length_le (by omega)]at h;have h:b++[]=Mp z 0 gs:=h;rw[V0]at h;rw[h]at hq;exact O dv cv H hq
structure PkO(H0 H:Hp)(q:Pk)(dv cv:AV):Prop where
 ds:Bk H Aq 1 dv q.ds.length (AE q.ds)
 cs:Bk H Ad 68 cv q.cs.length (q.cs.flatMap PC.cells)
 d0:q.ds=[]->dv=Av
 wf:Wf H
 nx:As H0<=As H
 fr:∀u y,Ai H0 u=some y->Ai H u=some y
 id:∀u,A9 dv u->As H0<=u
 ic:∀u,A9 cv u->As H0<=u
def A6L(N:40000<L)(s:GOk gs)(P:J7 kd)(hz:J7 z)(R:J7 tw)(Z:4<=pk tw 8)(O:LA gs a)(wf:Wf H)(V:∀dv cv H',PkO H H' (Uq (pk kd 6-1) (Mp z 0 gs)) dv cv->K (.agg [I (pk kd 6-1),dv,cv]) H'=x0):
 (r! L (n+66)).call Tc [a,.agg [I kd,I z,I tw]] H K=x0:=by
 rw[lZ];unfold SG Dz QY A3;rw[DN (by rfl),B1 (cs:=[I 0,Av,Av]) rfl];have w1:=AG (x:=.cells true AS [I kd,I z,I tw]) wf;have C:=AG (x:=.cells true Ay [I 0,Av,Av]) w1;have f1:∀u y,Ai H u=some y->Ai ((As H,c_ AS [I kd,I z,I tw])::H) u=some y:=λu y b=>A7 (wf.lt b) b;have f2:∀u y,Ai ((As H,c_ AS [I kd,I z,I tw])::H) u=some y->Ai ((As ((As H,c_ AS [I kd,I z,I tw])::H),c_ Ay [I 0,Av,Av])::(As H,c_ AS [I kd,I z,I tw])::H) u=some y:=λu y b=>A7 (w1.lt b) b;have b1:=f2 _ _ (Ax (H:=H) (x:=.cells true AS [I kd,I z,I tw]) (by simp));have i:Ai ((As ((As H,c_ AS [I kd,I z,I tw])::H),c_ Ay [I 0,Av,Av])::(As H,c_ AS [I kd,I z,I tw])::H) (As ((As H,c_ AS [I kd,I z,I tw])::H))=some (c_ Ay [I 0,Av,Av]):=Ax (by simp);have J:As ((As H,c_ AS [I kd,I z,I tw])::H)=As H+1:=rfl;have j:=λu y b=>f2 u y (f1 u y b);have g:As ((As ((As H,c_ AS [I kd,I z,I tw])::H),c_ Ay [I 0,Av,Av])::(As H,c_ AS [I kd,I z,I tw])::H)=As H+2:=rfl;have wb:=C;rw[J]at i j b1 g wb⊢;generalize ((As H+1,c_ Ay [I 0,Av,Av])::(As H,c_ AS [I kd,I z,I tw])::H:Hp)=d at b1 i j g wb⊢;clear f1 f2 w1 C;have X:∀{F:K2},AD Ab (.ptr (As H) 0 0) d F=F (I kd):=λ{F}=>AF (p:=0) rfl b1 (by simp);have p6:=EN (c:=kd) (n:=6) (by decide);have t:∀{m:Int}(h1:0<m)(h2:m<9223372036854775808){y:Int}(w:J7 y){H:Hp}{F:K2},Ap (r! L (n+65)) EE [I y,I m] H F=F (I (pk y m)):=λ{m}h1 h2{y}w{H F}=>(gZ (n:=n+64) w h1 h2) H F;have M:∀{y:Int}{F:K2},BP A5 [(0,1,I y)] F=F (.agg [I y,Av,Av]):=λ{y F}=>by kernel_rfl
 have sb:∀{F:K2},Ar Ab .sub (I (pk kd 6)) (AV.v (.int .i64 1)) F=F (I (pk kd 6-1)):=λ{F}=>by rw[J6,CQ (by omega) (by omega)]
 rw[Po,X,t (m:=6) (by decide) (by decide) P,sb,M,B1 (cs:=[I 0,Av,Av]) rfl];have B:Ai ((As d,c_ Ay [I 0,Av,Av])::d) (As d)=some (c_ Ay [I 0,Av,Av]):=Ax (by simp);rw[BX (vs:=[I (pk kd 6-1),Av,Av]) B rfl rfl rfl];simp only[BE];have st:PkR d (upd ((As d,c_ Ay [I 0,Av,Av])::d) (As d) (c_ Ay [I (pk kd 6-1),Av,Av])) (As d) (Uq (pk kd 6-1) []) Av Av:=by
  have D:Uq (pk kd 6-1) []=⟨pk kd 6-1,[],[]⟩:=by unfold Uq;split<;>rfl
  rw[D];refine⟨AC B,.inl ⟨rfl,rfl,rfl⟩,.inl ⟨rfl,rfl,rfl⟩,λ_=>rfl,wb,Bj (AG wb),?_,λu y b=>?_,Mh _,λu b=>absurd b (by simp[A9]),λu b=>absurd b (by simp[A9])⟩
  ·rw[B4];exact l1u _
  ·have:=wb.lt b;rw[Ag (by omega)];exact A7 this b
 refine A3R (n:=n) (r3:=As H+1) N s hz O b1 (λdv cv r hq=>?_) (L+20) 0 [] Av Av _ (by have:=s.len;omega) (by omega) rfl (by simp) st;have lt:∀{F:K2},AD Ab (.ptr (As H) 2 0) r F=F (I tw):=λ{F}=>AF (p:=2) rfl (hq.fr _ _ b1) (by simp);have q0:pk tw 8≠0:=by omega
 have q1:pk tw 8≠1:=by omega
 have q2:pk tw 8≠2:=by omega
 have q3:pk tw 8≠3:=by omega
 rw[Po,lt,t (m:=8) (by decide) (by decide) R,Cl,HW q0,AZ,Cl,HW q1,AZ,Cl,HW q2,AZ,Cl,HW q3,AZ];have e:=hq.fr _ _ i;have Q:([I (pk kd 6-1),dv,cv]:Is).all AV.one=true:=by
  have a1:=Bk.one hq.ds;have a2:=Bk.one hq.cs;simp only[oF,l3a,a1,a2];rfl
 have A:=hq.lda (F:=λk=>DF A5 (.ptr (As H+1) 0 0) k r λf=>AD A5 (.ptr (As H+1) 0 0) f λq=>K q f);rw[P']at A;rw[A,BX (vs:=[I (pk kd 6-1),dv,cv]) e rfl rfl Q,Bu rfl rfl (AC e)];have Y:∀u,u<As H->u≠As H+1:=λu h=>by omega
 refine V dv cv _ ⟨hq.ds.up (hq.ds.el e (by decide)),hq.cs.up (hq.cs.el e (by decide)),hq.d0,Bj hq.wf,by rw[B4];have:=hq.nx;omega,λu y b=>?_,λu b=>?_,λu b=>?_⟩
 ·have:=wf.lt b;rw[Ag (by omega)];exact hq.fr u y (j u y b)
 ·have:=hq.id u b;omega
 ·have:=hq.ic u b;omega
end
end
section
variable{L n:Nat}
def C3i{α:Type}{F:α}{k:α->Af}{x0:Af}{P:α->Prop}(b:P F)(c:∀f,P f->k f=x0):jn F k=x0:=c F b
section
variable{H H0 H':Hp}{dv cv a v:AV}{K:KV}{x0:Af}{p r m:Nat}{q:Pk}{gs A:ed}{l:List AR}
theorem A13{k:Ru}(h:SA l v)(d:l.length<1000)(b:k H=x0):
 ∀(fuel i:Nat),l.length<fuel+i->i<=l.length->L2 (L+20) (r! L n) K k fuel v v (I i) H=x0
 |0,i,h1,h2=>by omega
 |fuel+1,i,h1,h2=>by
  rw[Wc];unfold L3 Km A3 Ga;rw[h.len];by_cases c:i<l.length
  ·rw[Fz (by omega),Cu];simp only[h.ia c,Ke,Bw,RF,decide_true,Bool.not_true];rw[AZ,Db (by omega)];exact A13 h d b fuel (i+1) (by omega) (by omega)
  ·rw[Fp (by omega),AZ];exact b
def B37(h:SA l v)(d:l.length<1000)(e:1000<L){F:K2}:Ap (r! L (n+1)) Dr [v,v] H F=F (Bo true):=by
 refine AP (λK c=>?_) (Ao (h.fx H) (Ao (h.fx H) AH));rw[XR];unfold Mv A3 Kn Ga;rw[h.len,h.len,neI,AZ];simp only[BE];exact A13 (n:=n) h d (c _ _ λb=>⟨false,CC⟩) (L+20) 0 (by omega) (by omega)
def PkO.row(h:PkO H0 H q dv cv)(w0:Wf H0):∃H',(∀F:KV,(Bx Ay A5 H λb d=>DF A5 b (.agg [I q.kd,dv,cv]) d λe=>F b e)=F (.ptr (As H) 0 0) H')/\PkR H0 H' (As H) q dv cv:=by
 have g:Ai ((As H,c_ Ay [I 0,Av,Av])::H) (As H)=some (c_ Ay [I 0,Av,Av]):=Ax (by simp);have i:([I q.kd,dv,cv]:Is).all AV.one=true:=by
  have a1:=Bk.one h.ds;have a2:=Bk.one h.cs;simp only[oF,l3a,a1,a2];rfl
 have kp:∀u y,Ai H u=some y->Ai (upd ((As H,c_ Ay [I 0,Av,Av])::H) (As H) (c_ Ay [I q.kd,dv,cv])) u=some y:=λu y c=>by
  have:=h.wf.lt c;rw[Ag (by omega)];exact A7 this c
 refine⟨_,λF=>by rw[B1 (cs:=[I 0,Av,Av]) rfl,BX (vs:=[I q.kd,dv,cv]) g rfl rfl i],⟨AC g,h.ds.kp λs x _ f=>kp s x f,h.cs.kp λs x _ f=>kp s x f,h.d0,w0,Bj (AG h.wf),?_,λu y c=>kp u y (h.fr u y c),h.nx,h.id,h.ic⟩⟩;rw[B4];exact XV h.nx (l1u _)
def B4C{kd:Int}(b:GOk A):(∀p∈(Uq kd A).cs,p.Ok)/\(Uq kd A).ds.length<=8/\(Uq kd A).cs.length<=8:=by
 have d:=b.len;unfold Uq;split
 ·refine⟨λp e=>?_,by simp,by simpa using d⟩;obtain⟨c,hc,rfl⟩:=Rc.1 e;exact⟨b.ok c hc,b.nd c hc⟩
 ·exact⟨by simp,by simpa using d,by simp⟩
structure Bad(q:Pk):Prop where
 nr:¬q.Right
 ok:∀p∈q.cs,p.Ok
 dl:q.ds.length<=9
 cl:q.cs.length<=9
def wY{xs:List Y7}{a0:AV}{z1 k b t w:Int}(J:200000<L)(hx:XA xs a0)(ab:∀y∈xs,y.Ok)(h1:J7 z1)(hk:J7 k)(hb:J7 b)(hw:J7 w)(hK:∀H0,K (Bo true) H0=some (Bo true,[])):(r! L (n+87)).call NL [a0,I z1,.agg [I k,I b,I t],I w] [] K=some (Bo true,[]):=by
 rw[Tv];unfold Kb Dz QY Dk A3 Ga;obtain⟨D,X⟩:=B13 xs (min 8 xs.length) (by omega);have af:Fx true depth a0 a0 [(As [],c_ AS [I k,I b,I t])] false:=by
  rcases hx with rfl|⟨_,rfl⟩
  ·exact OI
  ·exact CC
 rw[DN (by rfl),B26 J,KG (B01 (n:=n+21) (by omega) hx ab) (Ao af AH)];generalize QC xs (min 8 xs.length)=gs at D X;have ha:=Rp gs;have wd:Wf ([(As [],c_ AS [I k,I b,I t])]:Hp):=AG FH;have ld:Ai ([(As [],c_ AS [I k,I b,I t])]:Hp) (As [])=some (c_ AS [I k,I b,I t]):=Ax (by simp);refine A0H (n:=n+19) (by omega) D h1 ha wd λr m H1 s1 e1 l1=>?_;have w1:=l1.wf wd;have ld1:=l1.keep wd _ _ ld id;generalize As ([]:Hp)=d at ld1;have eA:∀{x y:AV}{F:K2},CM (.tup [x,y]) 0 F=F x:=λ{x y F}=>r_ rfl;have eB:∀{x y:AV}{F:K2},CM (.tup [x,y]) 1 F=F y:=λ{x y F}=>r_ rfl;rw[eA,eB,Eh,Bool.not_true,AZ,Po,D6 ld1 (by simp) rfl rfl rfl];have s:GOk (Mp z1 0 gs):=(A5B (z:=z1) D (i:=0)).ok D;generalize Mp z1 0 gs=A at s1 s;have ld2:=AC (q:=true) (e:=AS) (cs:=[I k,I b,I 5]) ld1;have w2:Wf (upd H1 d (c_ AS [I k,I b,I 5])):=Bj w1;have s2:StAt (upd H1 d (c_ AS [I k,I b,I 5])) r m A:=by
  refine⟨?_,?_⟩
  ·rw[Ag (λe=>?_)]
   ·exact s1.st
   ·have:=s1.st;rw[e,ld1]at this;cases this
  ·rw[Ag (λe=>?_)]
   ·exact s1.mm
   ·have:=s1.mm;rw[e,ld1]at this;cases this
 have R:([I k,I b,I t]:Is).set 2 (AV.v (.int .i64 5))=[I k,I b,I 5]:=rfl;rw[R];generalize upd H1 d (c_ AS [I k,I b,I 5])=H2 at ld2 w2 s2;rw[Bu rfl rfl ld2];refine A6L (n:=n+20) (by omega) D hk hb (by unfold J7;omega) (by decide) ha w2 λdv cv H3 ho=>?_;have hP:=(A5B (z:=b) D (i:=0)).ok D;generalize Mp b 0 gs=B at ho hP;obtain⟨N,O,Q⟩:=B4C (kd:=pk k 6-1) hP;have Z:(Uq (pk k 6-1) B).kd=pk k 6-1:=P';generalize Uq (pk k 6-1) B=q at ho N O Q Z;rw[<-Z];obtain⟨H4,c4,p4⟩:=ho.row w2;rw[c4 (λak ai=>_)];generalize As H3=p at p4;have ah:=p4.fr _ _ ld2;have lb:∀{F:K2},AD Ab (.ptr d 1 0) H4 F=F (I b):=λ{F}=>AF (p:=1) rfl ah (by simp);have u:∀{m:Int}(h1:0<m)(h2:m<9223372036854775808){y:Int}(hy:J7 y){F:K2},Ap (r! L (n+86)) EE [I y,I m] H4 F=F (I (pk y m)):=λ{m}h1 h2{y}hy{F}=>(gZ (n:=n+85) hy h1 h2) H4 F;refine C3i (P:=λY:Ru=>∀q dv cv H,PkR H2 H p q dv cv->Bad q->Y H=some (Bo true,[])) (λq dv cv H hq j=>?_) λY f=>?_
 ·have sA:=s2.keep hq.fr;have er:L4 A q=(A,[]):=by unfold L4;rw[@if_neg _ (_) j.nr]
  rw[A0U (n:=n+4) s J sA.sv,Zq (n:=n+3) s J sA.sv,hq.lda];have d1:=j.dl;have d2:=j.cl;have V:(L4 A q).1=A:=by rw[er]
  refine UZ (n:=n+2) J s j.ok hq.wf sA hq.pks (by omega) (λ_=>by omega) (by omega) (by rw[V];exact s) (by rw[V];have:=s.len;omega) λv' g s5 p5 l5=>?_;rw[er]at s5 p5;have el:∀{F:K2},Bh AQ v' F=F (I 0):=λ{F}=>p5.len;have C:=(A2E (⟨λc h=>h,s.ids⟩:StIn A A)).ok s;have al:∀{F:K2},JR (r! L (n+86)) BS [.ptr r 0 0] g F=F (eP (T2 A)):=λ{F}=>A0U (n:=n+4) s J s5.sv;have wt:∀{F:K2},Ap (r! L (n+86)) Ck [.ptr r 0 0] g F=F (UX A):=λ{F}=>Zq (n:=n+3) s J s5.sv;have sc:∀{F:K2},Ap (r! L (n+86)) Lo [eP (T2 A),eP (T2 A)] g F=F (Bo true):=λ{F}=>AP (B36 (n:=n+44) C.ok (by have:=C.len;omega) (by omega) (Rp _)) (Ao ((Rp _).fx g) (Ao ((Rp _).fx g) AH));have ae:(Yi A).length<1000:=by
   have h2:(Yi A).length<=A.length:=by
    unfold Yi;rw[(Bq _).length_eq];exact XV (l30 _ _) (by rw[UH];exact Mh _)
   have:=s.len;omega
  have ss:∀{F:K2},Ap (r! L (n+86)) Dr [UX A,UX A] g F=F (Bo true):=λ{F}=>B37 (n:=n+85) A8H ae (by omega);have z0:∀{F:K2},Ar Ab .eql (I 0) (AV.v (.int .i64 0)) F=F (Bo true):=λ{F}=>eqI;simp only[Cb,gT,el,z0,UV,al,sc,wt,ss];exact hK g
 ·simp only[BE];rw[u (m:=5) (by decide) (by decide) hw];have p5:=EN (c:=w) (n:=5) (by decide);have e0:∀{F:K2},Ar Ab .eql (I (pk w 5)) (AV.v (.int .i64 0)) F=F (Bo (decide (pk w 5=0))):=λ{F}=>Cl;have e1:∀{F:K2},Ar Ab .eql (I (pk w 5)) (AV.v (.int .i64 1)) F=F (Bo (decide (pk w 5=1))):=λ{F}=>Cl;have e2:∀{F:K2},Ar Ab .eql (I (pk w 5)) (AV.v (.int .i64 2)) F=F (Bo (decide (pk w 5=2))):=λ{F}=>Cl;have e3:∀{F:K2},Ar Ab .eql (I (pk w 5)) (AV.v (.int .i64 3)) F=F (Bo (decide (pk w 5=3))):=λ{F}=>Cl;by_cases c0:pk w 5=0
  ·have pr:=EN (c:=b) (n:=100) (by decide);rw[e0,HR c0,Cu,Po,lb,u (m:=100) (by decide) (by decide) hb];have ad:∀{F:K2},Ar Ab .add (AV.v (.int .i64 4)) (I (pk b 100)) F=F (I (4+pk b 100)):=λ{F}=>by rw[CY,CQ (by omega) (by omega)]
   obtain⟨g,a1,a2⟩:=p4.kind (4+pk b 100);rw[ad,Po,a1];refine f _ _ _ _ a2 ⟨λh=>?_,N,by simpa using XV O (by omega),by simpa using XV Q (by omega)⟩;obtain⟨_,_,_,h|h⟩:=h
   ·have:=h.2;simp at this;omega
   ·have:=h.2;simp at this;omega
  rw[e0,HW c0,AZ,e1];by_cases c1:pk w 5=1
  ·have pr:=EN (c:=b) (n:=100) (by decide);rw[HR c1,Cu,Po,lb,u (m:=100) (by decide) (by decide) hb,mX (by omega) (by omega)];obtain⟨g,a1,a2⟩:=p4.kind (-pk b 100);rw[Po,a1];refine f _ _ _ _ a2 ⟨λh=>?_,N,by simpa using XV O (by omega),by simpa using XV Q (by omega)⟩;obtain⟨_,_,_,h|h⟩:=h
   ·have:=h.2;simp at this;omega
   ·have:=h.2;simp at this;omega
  rw[HW c1,AZ,e2];by_cases c2:pk w 5=2
  ·rw[HR c2,Cu,Po,p4.ldd];obtain⟨aa,g,H6,H7,a1,a2,a3,a4,a5⟩:=p4.addD [116,111,111,32,115,104,111,114,116] (by omega);rw[a1,a2,Po,a3];refine f _ _ _ _ a5 ⟨λh=>?_,N,by simpa using O,by simpa using XV Q (by omega)⟩;have:=h.2.2.1 [116,111,111,32,115,104,111,114,116] (by simp);simp at this
  rw[HW c2,AZ,e3];by_cases c3:pk w 5=3
  ·obtain⟨ps,ac⟩:=B9i (L:=L) (n:=n+66) hb (by omega);obtain⟨g,a1,a2⟩:=p4.kind 3;have ag:∀{F:K2},AD Ab (.ptr d 1 0) g F=F (I b):=λ{F}=>AF (p:=1) rfl (a2.fr _ _ ld2) (by simp);obtain⟨aa,H6,H7,H8,b1,b2,b3,b4,b5⟩:=a2.addD ps (by simp;omega);have pp:∀{F:K2},Ap (r! L (n+86)) F3 [I b] g F=F (S ps):=λ{F}=>ac g F;rw[HR c3,Cu,Po,a1];simp only[Po,Bw,a2.ldd,ag,pp,b1,Cb,b2,b3,b4];rw[okS (rO a2.ds)];refine f _ _ _ _ b5 ⟨λh=>?_,N,by simpa using O,by simpa using XV Q (by omega)⟩;obtain⟨_,_,_,h|h⟩:=h
   ·have:=h.2;simp at this
   ·have:=h.1;simp at this
  rw[HW c3,AZ,Po,lb,u (m:=2) (by decide) (by decide) hb];have pr:=EN (c:=b) (n:=2) (by decide);have ad:∀{F:K2},Ar Ab .add (AV.v (.int .i64 1)) (I (pk b 2)) F=F (I (1+pk b 2)):=λ{F}=>by rw[CY,CQ (by omega) (by omega)]
  obtain⟨g,a1,a2⟩:=p4.kind (1+pk b 2);obtain⟨aj,H6,H7,H8,b1,b2,b3,b4,b5⟩:=a2.addC .z (by simp;omega);have eb:∀{F:K2},BP Ae [] F=F (.agg PC.z.cells):=λ{F}=>by kernel_rfl
  rw[ad,Po,a1,Po,a2.ldc,eb,b1,b2,Po,b3];refine f _ _ _ _ b5 ⟨λh=>?_,λp M=>?_,by simpa using XV O (by omega),by simpa using Q⟩
  ·obtain⟨_,_,_,h|h⟩:=h
   ·have:=h.1;simp at this
   ·have:=h.2;simp at this;omega
  ·rcases kB.1 M with M|M
   ·exact N p M
   ·rw[YR]at M;subst M;trivial
end
end
end Go.Abs
end
noncomputable section
namespace Go.Proofs
open Go.Shelf
def Tryz.lays156_ren:Go.Shelf.Ren:=⟨λ|156=>231|165=>263|166=>226|169=>193|240=>261|241=>282|276=>280|277=>316|n=>n,λ|31=>31|9=>9|3=>3|4=>4|0=>0|20=>20|72=>233|76=>265|70=>231|37=>115|75=>264|127=>272|164=>321|5=>5|80=>240|n=>n,λ|n=>n⟩
theorem Tryz.lays156:Go.Proofs.Lays.n156 Tryz.prog Tryz.lays156_ren:={
 mixed:=by kernel_rfl
 f156:=Tryz.func231.trans (congrArg some (by kernel_rfl))
 f165:=Tryz.func263.trans (congrArg some (by kernel_rfl))
 f166:=Tryz.func226.trans (congrArg some (by kernel_rfl))
 f169:=Tryz.func193.trans (congrArg some (by kernel_rfl))
 f240:=Tryz.func261.trans (congrArg some (by kernel_rfl))
 f241:=Tryz.func282.trans (congrArg some (by kernel_rfl))
 f276:=Tryz.func280.trans (congrArg some (by kernel_rfl))
 f277:=Tryz.func316.trans (congrArg some (by kernel_rfl))
 t0:=Tryz.underlying0
 a0:=Tryz.isAgg0
 z0:=Tryz.sizeOf0
 v0:=Tryz.zeroValue0
 t3:=Tryz.underlying3
 a3:=Tryz.isAgg3
 z3:=Tryz.sizeOf3
 v3:=Tryz.zeroValue3
 t4:=Tryz.underlying4
 a4:=Tryz.isAgg4
 z4:=Tryz.sizeOf4
 v4:=Tryz.zeroValue4
 t9:=Tryz.underlying9
 a9:=Tryz.isAgg9
 z9:=Tryz.sizeOf9
 v9:=Tryz.zeroValue9
 t20:=Tryz.underlying20
 a20:=Tryz.isAgg20
 z20:=Tryz.sizeOf20
 v20:=Tryz.zeroValue20
 t31:=Tryz.underlying31
 a31:=Tryz.isAgg31
 z31:=Tryz.sizeOf31
 v31:=Tryz.zeroValue31
 t37:=Tryz.underlying115
 a37:=Tryz.isAgg115
 z37:=Tryz.sizeOf115
 v37:=Tryz.zeroValue115
 t70:=Tryz.underlying231
 a70:=Tryz.isAgg231
 z70:=Tryz.sizeOf231
 v70:=Tryz.zeroValue231
 t72:=Tryz.underlying233
 a72:=Tryz.isAgg233
 z72:=Tryz.sizeOf233
 v72:=Tryz.zeroValue233
 t75:=Tryz.underlying264
 a75:=Tryz.isAgg264
 z75:=Tryz.sizeOf264
 v75:=Tryz.zeroValue264
 t76:=Tryz.underlying265
 a76:=Tryz.isAgg265
 z76:=Tryz.sizeOf265
 v76:=Tryz.zeroValue265
 t127:=Tryz.underlying272
 a127:=Tryz.isAgg272
 z127:=Tryz.sizeOf272
 v127:=Tryz.zeroValue272
 t164:=Tryz.underlying321
 a164:=Tryz.isAgg321
 z164:=Tryz.sizeOf321
 v164:=Tryz.zeroValue321}
theorem Tryz.Builder_Extra_156:Builder.Extra Tryz.prog Tryz.lays156_ren:={
 sizeBuilder:=by kernel_rfl
 liesBuilder:=by kernel_rfl
 t5:=Tryz.underlying5
 a5:=Tryz.isAgg5
 z5:=Tryz.sizeOf5
 v5:=Tryz.zeroValue5
 infoByte:=by kernel_rfl
 cellsByte:=by kernel_rfl
 sizeByte:=by kernel_rfl
 neB5:=by decide}
open Go.RowKit in
theorem Tryz.strings_Join_none(a:Option Addr)(c:Nat)(sep:ByteArray)(w:World):
 Calls Tryz.prog 231 #[.slice a 0 c,.string sep] w λe w'=>e=.returned (.string ⟨#[]⟩)/\w'=w:=Any.strings_Join_none Tryz.lays156 Tryz.Builder_Extra_156 a c sep w
open Go.RowKit in
theorem Tryz.strings_Join(bk o c:Nat)(xs:List ByteArray)(sep:ByteArray)(w:World)(hcells:∀(j:Nat)x,xs[j]?=some x->w.cell? ⟨bk,o+j,none⟩=some (.string x))(hbk:bk<w.heap.size)(hN:xs.length<=140737488355328)(hcap:xs.length<=c)(hlen:(Lib.join (xs.map (·.data.toList)) sep.data.toList).length<=140737488355328):
 Calls Tryz.prog 231 #[.slice (some ⟨bk,o,none⟩) xs.length c,.string sep] w λe w'=>e=.returned (.string ⟨(Lib.join (xs.map (·.data.toList)) sep.data.toList).toArray⟩)/\Below w.heap.size w w':=Any.strings_Join Tryz.lays156 Tryz.Builder_Extra_156 bk o c xs sep w hcells hbk hN hcap hlen
def Tryz.lays190_ren:Go.Shelf.Ren:=⟨λ|190=>70|125=>109|258=>108|128=>154|129=>155|302=>145|303=>146|304=>147|305=>148|306=>149|307=>150|308=>151|309=>152|310=>153|333=>197|329=>198|330=>199|334=>200|335=>201|336=>202|344=>237|n=>n,λ|31=>31|9=>9|3=>3|46=>118|0=>0|51=>113|53=>160|4=>4|183=>197|182=>196|131=>201|5=>5|218=>247|222=>251|228=>279|229=>280|n=>n,λ|n=>n⟩
theorem Tryz.lays190:Go.Proofs.Lays.n190 Tryz.prog Tryz.lays190_ren:={
 mixed:=by kernel_rfl
 f125:=Tryz.func109.trans (congrArg some (by kernel_rfl))
 f128:=Tryz.func154.trans (congrArg some (by kernel_rfl))
 f129:=Tryz.func155.trans (congrArg some (by kernel_rfl))
 f190:=Tryz.func70.trans (congrArg some (by kernel_rfl))
 f258:=Tryz.func108.trans (congrArg some (by kernel_rfl))
 f302:=Tryz.func145.trans (congrArg some (by kernel_rfl))
 f303:=Tryz.func146.trans (congrArg some (by kernel_rfl))
 f304:=Tryz.func147.trans (congrArg some (by kernel_rfl))
 f305:=Tryz.func148.trans (congrArg some (by kernel_rfl))
 f306:=Tryz.func149.trans (congrArg some (by kernel_rfl))
 f307:=Tryz.func150.trans (congrArg some (by kernel_rfl))
 f308:=Tryz.func151.trans (congrArg some (by kernel_rfl))
 f309:=Tryz.func152.trans (congrArg some (by kernel_rfl))
 f310:=Tryz.func153.trans (congrArg some (by kernel_rfl))
 f329:=Tryz.func198.trans (congrArg some (by kernel_rfl))
 f330:=Tryz.func199.trans (congrArg some (by kernel_rfl))
 f333:=Tryz.func197.trans (congrArg some (by kernel_rfl))
 f334:=Tryz.func200.trans (congrArg some (by kernel_rfl))
 f335:=Tryz.func201.trans (congrArg some (by kernel_rfl))
 f336:=Tryz.func202.trans (congrArg some (by kernel_rfl))
 f344:=Tryz.func237.trans (congrArg some (by kernel_rfl))
 t0:=Tryz.underlying0
 a0:=Tryz.isAgg0
 z0:=Tryz.sizeOf0
 v0:=Tryz.zeroValue0
 t3:=Tryz.underlying3
 a3:=Tryz.isAgg3
 z3:=Tryz.sizeOf3
 v3:=Tryz.zeroValue3
 t4:=Tryz.underlying4
 a4:=Tryz.isAgg4
 z4:=Tryz.sizeOf4
 v4:=Tryz.zeroValue4
 t5:=Tryz.underlying5
 a5:=Tryz.isAgg5
 z5:=Tryz.sizeOf5
 v5:=Tryz.zeroValue5
 t9:=Tryz.underlying9
 a9:=Tryz.isAgg9
 z9:=Tryz.sizeOf9
 v9:=Tryz.zeroValue9
 t31:=Tryz.underlying31
 a31:=Tryz.isAgg31
 z31:=Tryz.sizeOf31
 v31:=Tryz.zeroValue31
 t46:=Tryz.underlying118
 a46:=Tryz.isAgg118
 z46:=Tryz.sizeOf118
 v46:=Tryz.zeroValue118
 t51:=Tryz.underlying113
 a51:=Tryz.isAgg113
 z51:=Tryz.sizeOf113
 v51:=Tryz.zeroValue113
 t53:=Tryz.underlying160
 a53:=Tryz.isAgg160
 z53:=Tryz.sizeOf160
 v53:=Tryz.zeroValue160
 t131:=Tryz.underlying201
 a131:=Tryz.isAgg201
 z131:=Tryz.sizeOf201
 v131:=Tryz.zeroValue201
 t182:=Tryz.underlying196
 a182:=Tryz.isAgg196
 z182:=Tryz.sizeOf196
 v182:=Tryz.zeroValue196
 t183:=Tryz.underlying197
 a183:=Tryz.isAgg197
 z183:=Tryz.sizeOf197
 v183:=Tryz.zeroValue197
 t218:=Tryz.underlying247
 a218:=Tryz.isAgg247
 z218:=Tryz.sizeOf247
 v218:=Tryz.zeroValue247
 t222:=Tryz.underlying251
 a222:=Tryz.isAgg251
 z222:=Tryz.sizeOf251
 v222:=Tryz.zeroValue251
 t228:=Tryz.underlying279
 a228:=Tryz.isAgg279
 z228:=Tryz.sizeOf279
 v228:=Tryz.zeroValue279
 t229:=Tryz.underlying280
 a229:=Tryz.isAgg280
 z229:=Tryz.sizeOf280
 v229:=Tryz.zeroValue280}
open Go.Sort Go.RowKit in
theorem Tryz.slices_Sort_string(blk off cap:Nat)(ss:List (List UInt8))(w:World)(hH:Holds encStr w blk off ss.toArray)(hblk:blk<w.heap.size)(hsz:ss.length<4611686018427387904):
 Calls Tryz.prog 70 #[.slice (some ⟨blk,off,none⟩) ss.length cap] w λe w'=>
  e=.returned (.tuple #[])/\∃n os,w'=grow (putRow encStr (Sort.ahead w n) blk off (ss.mergeSort λx y=>decide (x<=y)).toArray) os:=Any.slices_Sort_string Tryz.lays190 blk off cap ss w hH hblk hsz
def Tryz.lays105_ren:Go.Shelf.Ren:=⟨λ|105=>333|212=>369|99=>370|165=>263|166=>226|170=>192|169=>193|263=>387|264=>388|206=>380|240=>261|241=>282|276=>280|277=>316|n=>n,λ|9=>9|3=>3|4=>4|20=>20|0=>0|46=>118|109=>383|5=>5|72=>233|76=>265|51=>113|146=>396|53=>160|148=>398|70=>231|37=>115|75=>264|127=>272|164=>321|80=>240|n=>n,λ|n=>n⟩
theorem Tryz.lays105:Go.Proofs.Lays.n105 Tryz.prog Tryz.lays105_ren:={
 mixed:=by kernel_rfl
 f99:=Tryz.func370.trans (congrArg some (by kernel_rfl))
 f105:=Tryz.func333.trans (congrArg some (by kernel_rfl))
 f165:=Tryz.func263.trans (congrArg some (by kernel_rfl))
 f166:=Tryz.func226.trans (congrArg some (by kernel_rfl))
 f169:=Tryz.func193.trans (congrArg some (by kernel_rfl))
 f170:=Tryz.func192.trans (congrArg some (by kernel_rfl))
 f206:=Tryz.func380.trans (congrArg some (by kernel_rfl))
 f212:=Tryz.func369.trans (congrArg some (by kernel_rfl))
 f240:=Tryz.func261.trans (congrArg some (by kernel_rfl))
 f241:=Tryz.func282.trans (congrArg some (by kernel_rfl))
 f263:=Tryz.func387.trans (congrArg some (by kernel_rfl))
 f264:=Tryz.func388.trans (congrArg some (by kernel_rfl))
 f276:=Tryz.func280.trans (congrArg some (by kernel_rfl))
 f277:=Tryz.func316.trans (congrArg some (by kernel_rfl))
 t0:=Tryz.underlying0
 a0:=Tryz.isAgg0
 z0:=Tryz.sizeOf0
 v0:=Tryz.zeroValue0
 t3:=Tryz.underlying3
 a3:=Tryz.isAgg3
 z3:=Tryz.sizeOf3
 v3:=Tryz.zeroValue3
 t4:=Tryz.underlying4
 a4:=Tryz.isAgg4
 z4:=Tryz.sizeOf4
 v4:=Tryz.zeroValue4
 t5:=Tryz.underlying5
 a5:=Tryz.isAgg5
 z5:=Tryz.sizeOf5
 v5:=Tryz.zeroValue5
 t9:=Tryz.underlying9
 a9:=Tryz.isAgg9
 z9:=Tryz.sizeOf9
 v9:=Tryz.zeroValue9
 t20:=Tryz.underlying20
 a20:=Tryz.isAgg20
 z20:=Tryz.sizeOf20
 v20:=Tryz.zeroValue20
 t37:=Tryz.underlying115
 a37:=Tryz.isAgg115
 z37:=Tryz.sizeOf115
 v37:=Tryz.zeroValue115
 t46:=Tryz.underlying118
 a46:=Tryz.isAgg118
 z46:=Tryz.sizeOf118
 v46:=Tryz.zeroValue118
 t51:=Tryz.underlying113
 a51:=Tryz.isAgg113
 z51:=Tryz.sizeOf113
 v51:=Tryz.zeroValue113
 t53:=Tryz.underlying160
 a53:=Tryz.isAgg160
 z53:=Tryz.sizeOf160
 v53:=Tryz.zeroValue160
 t70:=Tryz.underlying231
 a70:=Tryz.isAgg231
 z70:=Tryz.sizeOf231
 v70:=Tryz.zeroValue231
 t72:=Tryz.underlying233
 a72:=Tryz.isAgg233
 z72:=Tryz.sizeOf233
 v72:=Tryz.zeroValue233
 t75:=Tryz.underlying264
 a75:=Tryz.isAgg264
 z75:=Tryz.sizeOf264
 v75:=Tryz.zeroValue264
 t76:=Tryz.underlying265
 a76:=Tryz.isAgg265
 z76:=Tryz.sizeOf265
 v76:=Tryz.zeroValue265
 t109:=Tryz.underlying383
 a109:=Tryz.isAgg383
 z109:=Tryz.sizeOf383
 v109:=Tryz.zeroValue383
 t127:=Tryz.underlying272
 a127:=Tryz.isAgg272
 z127:=Tryz.sizeOf272
 v127:=Tryz.zeroValue272
 t146:=Tryz.underlying396
 a146:=Tryz.isAgg396
 z146:=Tryz.sizeOf396
 v146:=Tryz.zeroValue396
 t148:=Tryz.underlying398
 a148:=Tryz.isAgg398
 z148:=Tryz.sizeOf398
 v148:=Tryz.zeroValue398
 t164:=Tryz.underlying321
 a164:=Tryz.isAgg321
 z164:=Tryz.sizeOf321
 v164:=Tryz.zeroValue321}
theorem Tryz.Builder_Extra_105:Builder.Extra Tryz.prog Tryz.lays105_ren:={
 sizeBuilder:=by kernel_rfl
 liesBuilder:=by kernel_rfl
 t5:=Tryz.underlying5
 a5:=Tryz.isAgg5
 z5:=Tryz.sizeOf5
 v5:=Tryz.zeroValue5
 infoByte:=by kernel_rfl
 cellsByte:=by kernel_rfl
 sizeByte:=by kernel_rfl
 neB5:=by decide}
open Go.RowKit Go.Lib in
theorem Tryz.strings_Repeat(s:ByteArray)(c:Nat)(w:World)(hc:c<=9223372036854775807)(hlen:s.size*c<=140737488355328):
 Calls Tryz.prog 333 #[.string s,.int .i64 c] w λe w'=>e=.returned (.string ⟨(Lib.repeatL s.data.toList c).toArray⟩)/\Below w.heap.size w w':=Any.strings_Repeat Tryz.lays105 Tryz.Builder_Extra_105 s c w hc hlen
def Tryz.growS_ren:Go.Shelf.Ren:=⟨λ|4=>156|n=>n,λ|22=>31|25=>9|3=>3|4=>4|9=>9|20=>20|0=>0|n=>n,λn=>n⟩
theorem Tryz.growS:Go.Proofs.Lays8.n4 Tryz.prog Tryz.growS_ren:={
 mixed:=by kernel_rfl
 f4:=⟨Tryz.f156.name,by kernel_rfl,Tryz.func156.trans (congrArg some (by kernel_rfl))⟩
 t0:=Tryz.underlying0
 a0:=Tryz.isAgg0
 z0:=Tryz.sizeOf0
 v0:=Tryz.zeroValue0
 t3:=Tryz.underlying3
 a3:=Tryz.isAgg3
 z3:=Tryz.sizeOf3
 v3:=Tryz.zeroValue3
 t4:=Tryz.underlying4
 a4:=Tryz.isAgg4
 z4:=Tryz.sizeOf4
 v4:=Tryz.zeroValue4
 t9:=Tryz.underlying9
 a9:=Tryz.isAgg9
 z9:=Tryz.sizeOf9
 v9:=Tryz.zeroValue9
 t20:=Tryz.underlying20
 a20:=Tryz.isAgg20
 z20:=Tryz.sizeOf20
 v20:=Tryz.zeroValue20
 t22:=Tryz.underlying31
 a22:=Tryz.isAgg31
 z22:=Tryz.sizeOf31
 v22:=Tryz.zeroValue31
}
theorem Tryz.slices_Grow_0(w:World):Calls Tryz.prog 156 #[.slice none 0 0,.int .i64 0] w λe w'=>e=.returned (.slice none 0 0)/\w'=w:=
 Any8.slices_Grow_room Tryz.growS none 0 0 0 w (Nat.le_refl _) (by decide) (by decide) (Nat.le_refl _)
theorem Tryz.slices_Grow_n(n:Nat)(w:World)(h0:0<n)(h1:n<=1000000):Calls Tryz.prog 156 #[.slice none 0 0,.int .i64 n] w λe w'=>∃(arr:Array Value)(fz:Nat×Nat)(cap:Nat),cap<=arr.size/\e=.returned (.slice (some ⟨w.heap.size,0,none⟩) 0 cap)/\Go.RowKit.Below w.heap.size w w'/\w'.heap[w.heap.size]?=some (.cells arr 9 fz)/\∀i,i<arr.size->¬(fz.1<=i/\i<fz.2):=by
 have hs:(Tryz.prog.info? 9).isSome=true:=by kernel_rfl
 obtain⟨i0,hi0⟩:=Option.isSome_iff_exists.1 hs
 have hz:(Tryz.prog.info? 9).bind (λi=>i.zero)=some (.string ⟨#[]⟩):=by kernel_rfl
 have hz1:(Tryz.prog.info? 9).map (λi=>i.size)=some 1:=by kernel_rfl
 have hz2:(Tryz.prog.info? 9).map (λi=>i.bytes)=some 16:=by kernel_rfl
 rw[hi0]at hz hz1 hz2
 have hz:i0.zero=some (.string ⟨#[]⟩):=hz
 have hz1:i0.size=1:=Option.some.inj hz1
 have hz2:i0.bytes=16:=Option.some.inj hz2
 refine(Any8.slices_Grow_grow Tryz.growS i0 (.string ⟨#[]⟩) hi0 hz (by rw[hz1];decide) none 0 0 n [] w (Nat.le_refl _) (by omega) (by rw[hz2];omega) (by omega) (by simp) (λ_=>rfl) (λa h=>by cases h)).mono ?_
 rintro e w' ⟨he,hw⟩
 have hzc:∀k,(Builtin.zeroCells (Value.string ⟨#[]⟩).cells k).size=k:=λk=>by
  have e:(Value.string ⟨#[]⟩).cells= #[.string ⟨#[]⟩]:=rfl
  rw[e]
  simp[Builtin.zeroCells]
 have key:∃arr:Array Value,w'=w.drew.alloc (.cells arr 9)/\grownCap w (0+n) 0 (Tryz.growS_ren.t 25)<=arr.size:=⟨_,hw,by
  simp only[Array.size_append,hzc]
  omega⟩
 obtain⟨arr,hw,hsz⟩:=key
 refine⟨arr,(0,0),_,hsz,he,?_,?_,λi _ h=>Nat.not_lt_zero _ h.2⟩
 ·rw[hw]
  exact((Go.RowKit.Below.refl _ _).drew).alloc (Nat.le_refl _) _
 ·rw[hw]
  show(w.heap.push _)[w.heap.size]?=_
  rw[Array.getElem?_push_size]
end Go.Proofs
end
noncomputable section
namespace Go.Abs
open Go.RowKit Go.Proofs
set_option maxRecDepth 100000
theorem C3R:dF Tryz.prog 231:=⟨Tryz.f231,by kernel_rfl,by kernel_rfl,by kernel_rfl⟩
theorem C5A:dF Tryz.prog 70:=⟨Tryz.f70,by kernel_rfl,by kernel_rfl,by kernel_rfl⟩
theorem C3S:dF Tryz.prog 156:=⟨Tryz.f156,by kernel_rfl,by kernel_rfl,by kernel_rfl⟩
theorem C3Q:dF Tryz.prog 333:=⟨Tryz.f333,by kernel_rfl,by kernel_rfl,by kernel_rfl⟩
theorem C2L(E:XE):oT.All (G_ E Tryz.prog):=
 ⟨B0W C3R Tryz.strings_Join_none Tryz.strings_Join,⟨B14 C3S Tryz.slices_Grow_0 Tryz.slices_Grow_n,⟨A9o C5A Tryz.slices_Sort_string,trivial,trivial⟩,trivial⟩,⟨A3E C3Q Tryz.strings_Repeat,trivial,trivial⟩⟩
theorem A9A(L n:Nat):RSound tC (E L) Tryz.prog (rt L n):=A3X (C6a L) (C2P L) (C2L _) n
def Y7.vs(y:Y7):List Value:=[.int .i64 y.y0,.int .i64 y.y1,.int .i64 y.y2,.int .i64 y.y3,.int .i64 y.y4,.int .i64 y.y5,.int .i64 y.y6]
theorem C1C(xs:List Y7):xs.flatMap Y7.cs=(xs.flatMap Y7.vs).map λx=>.v x:=by
 induction xs with
 |nil=>rfl
 |cons y xs ih=>rw[rE,rE,Z6,ih];rfl
theorem B1b{α β:Type}(f:α->List β)(w:Nat)(hf:∀x,(f x).length=w):∀(l:List α)(i j:Nat)(h:i<l.length),j<w->(l.flatMap f)[i*w+j]?=(f l[i])[j]?:=by
 intro l
 induction l with
 |nil=>intro i j h;simp at h
 |cons a l ih=>
  intro i j h hj
  rw[rE]
  cases i with
  |zero=>
   rw[Nat.zero_mul,Kd,l0m (by rw[hf];exact hj)];rfl
  |succ i=>
   have e:(i+1)*w+j=(f a).length+(i*w+j):=by rw[hf,l1e];omega
   rw[e,l0o (by omega),Nat.add_sub_cancel_left,List.getElem_cons_succ]
   exact ih i j (by simpa using h) hj
theorem A?{α β:Type}(f:α->List β)(w:Nat)(hf:∀x,(f x).length=w):∀l:List α,(l.flatMap f).length=l.length*w:=by
 intro l
 induction l with
 |nil=>simp
 |cons a l ih=>simp[ih,hf,l1e,Nat.add_comm]
def B1U(W:World):Ctx:={π:=λ_=>none,F:=λb _=>b<W.heap.size,B:=λ_=>False}
theorem B2a{W:World}{b i:Nat}{v:Value}(h:W.cell? ⟨b,i,none⟩=some v):b<W.heap.size:=by
 unfold World.cell? at h
 split at h
 ·rename_i c t f he
  exact(l1v.1 he).1
 ·cases h
theorem C54{W:World}{G:Gl}(hG:∀(g:Nat)(cs:List Value),G g=some cs->∀(i:Nat)(v:Value),cs[i]?=some v->W.cell? ⟨g,i,none⟩=some v):Rel G ⟨W,λ_=>False⟩ (B1U W) [] W where
 glob:=λg cs hg i v hv=>⟨B2a (hG g cs hg i v hv),hG g cs hg i v hv⟩
 below:=Keep.refl W _
 lt:=λr x h=>by cases h
 rows:=λr x h=>by cases h
 own:=λr x b o h=>by cases h
 sep:=λr r' x x' b o o' h=>by cases h
 fin:=λb i h=>h
 finB:=λb h=>h.elim
 nx:=λr _=>rfl
theorem B3q{W:World}{n cap:Nat}{a:Option Addr}{vs:List Value}(hn:n<=cap)(h0:n=0->vs=[])(h:∀i(hi:i<vs.length),∃b o,a=some ⟨b,o,none⟩/\W.cell? ⟨b,o+i,none⟩=some vs[i])(hne:0<n->0<vs.length):VRel (B1U W) W (.list n (vs.map λx=>.v x)) (.slice a n cap):=by
 by_cases h1:n=0
 ·subst h1
  rw[h0 rfl]
  exact .list0
 ·have h2:=hne (by omega)
  obtain⟨b,o,ha, -⟩:=h 0 h2
  subst ha
  have hc:∀i(hi:i<vs.length),W.cell? ⟨b,o+i,none⟩=some vs[i]:=λi hi=>by
   obtain⟨b',o',e,hc⟩:=h i hi
   cases e
   exact hc
  refine .list hn (λi=>vs.getD i undef) (λi hi=>?_) (λi hi=>?_) (λi hi=>?_)
  ·exact B2a (hc i (by simpa using hi))
  ·have hi':i<vs.length:=by simpa using hi
   rw[hc i hi',UW,KL hi'];rfl
  ·have hi':i<vs.length:=by simpa using hi
   have:(vs.map λx=>AV.v x)[i]=.v (vs.getD i undef):=by
    rw[l2n,UW,KL hi'];rfl
   rw[this]
   exact .v _
end Go.Abs
end
noncomputable section
namespace Go.Proofs.YtdaajghondabnaaGreatDoor
open Go.ChangeShapes Go.WideShapes Go.ChangeAt Go.WideMaps Go.WideElems Go.RowKit Go.Abs
set_option maxRecDepth 100000
theorem own:ownKnob Tryz.prog.godebug=none:=by kernel_rfl
theorem A5P:laidOutB Tryz.prog=true:=by kernel_rfl
theorem u22:Tryz.prog.underlying 22=some (.slice 74):=by kernel_rfl
theorem u90:Tryz.prog.underlying 74=some (.array 7 3):=by kernel_rfl
theorem u3:Tryz.prog.underlying 3=some (.int .i64):=by kernel_rfl
theorem u4:Tryz.prog.underlying 4=some .bool:=by kernel_rfl
theorem c3:Tryz.prog.cellsOf 3=1:=by kernel_rfl
theorem c90:Tryz.prog.cellsOf 74=7:=by kernel_rfl
theorem F_{H:Type}{enc:TypeId×Value->H}{P:Program}{W:World}{base:Nat}{spare:Nat->Bool}{held:Bool}{fuel:Nat}{t e:TypeId}{k:IntKind}{cs:List Value}{ns:List Int}{pl:List MemPlace}(ht:P.underlying t=some (.array ns.length e))(he:P.underlying e=some (.int k))(ce:P.cellsOf e=1)(ct:P.cellsOf t=ns.length)(h:DataW.trod enc P W base spare held fuel t cs=some (.agg (ns.map λz=>.lit (.int k z)),pl)):cs=ns.map λz=>Value.int k z:=by
 obtain⟨xs,m,_,hx,hlen,hn,hel⟩:=DataW.trod_array ht h
 simp only[Prod.mk.injEq,DataW.agg.injEq]at hx
 obtain⟨hx,_⟩:=hx
 apply List.ext_getElem
 ·rw[hlen,ct,UH]
 ·intro i h1 h2
  have hi:i<ns.length:=by simpa using h2
  have hxi:i<xs.length:=by omega
  have h0:=hel i hi
  rw[ce,qZ,KL hxi]at h0
  obtain⟨z,e1,e2,_⟩:=DataW.trod_int he h0
  have e3:(cs.drop i).take 1=[cs[i]]:=by rw[uZ h1];rfl
  rw[e3]at e1
  have e4:(ns.map λz=>DataW.lit (H:=H) (.int k z))[i]'(by simpa using hi)=(xs.map (·.1))[i]'(by simpa using hxi):=by simp only[hx]
  rw[l2n,l2n,e2]at e4
  have e5:ns[i]=z:=by simpa using e4
  rw[l2n,e5]
  simpa using e1
def B4L(l:List AV):List Int:=l.map λa=>match a with|.v (.int _ z)=>z|_=>0
theorem C35:Rows.laid_yardstick_digest_round (H:=Unit)=.agg ((B4L gl0).map λz=>.lit (.int .u32 z)):=by kernel_rfl
theorem C34:Rows.laid_internal_strconv_uint64pow10 (H:=Unit)=.agg ((B4L gl1).map λz=>.lit (.int .u64 z)):=by kernel_rfl
theorem C3H:gl0.map unV=(B4L gl0).map λz=>Value.int .u32 z:=by kernel_rfl
theorem C3F:gl1.map unV=(B4L gl1).map λz=>Value.int .u64 z:=by kernel_rfl
theorem gn0:Tryz.prog.globalNamed "yardstick/digest.round" =some 0:=by kernel_rfl
theorem gn1:Tryz.prog.globalNamed "internal/strconv.uint64pow10" =some 1:=by kernel_rfl
theorem B4K{W:World}(h:laidMetH Tryz.prog Rows.exchangeRefusesRow.laid W):∀L(g:Nat)(cs:List Value),(E L).G g=some cs->∀(i:Nat)(v:Value),cs[i]?=some v->W.cell? ⟨g,i,none⟩=some v:=by
 rw[MakeChecks.laidMetH_plain _ _ _ (by kernel_rfl)]at h
 obtain⟨ps,hv,_,_⟩:=h
 obtain⟨_,_,_,_,_,_,_,_,_,_,hv,_⟩:=hv
 obtain⟨_,_,_,_,_,_,_,_,_,_,hv,_⟩:=hv
 obtain⟨g1,t1,cs1,f1,p1,q1,hg1,ht1,hv1,hd1,hv,_⟩:=hv
 obtain⟨_,_,_,_,_,_,_,_,_,_,hv,_⟩:=hv
 obtain⟨_,_,_,_,_,_,_,_,_,_,hv,_⟩:=hv
 obtain⟨_,_,_,_,_,_,_,_,_,_,hv,_⟩:=hv
 obtain⟨g0,t0,cs0,f0,p0,q0,hg0,ht0,hv0,hd0, -,_⟩:=hv
 obtain rfl:=l2b (gn0.symm.trans hg0)
 obtain rfl:=l2b (gn1.symm.trans hg1)
 have tt0:(Tryz.prog.globals[0]?).map (·.type)=some 275:=by kernel_rfl
 have tt1:(Tryz.prog.globals[1]?).map (·.type)=some 363:=by kernel_rfl
 obtain rfl:=l2b (tt0.symm.trans ht0)
 obtain rfl:=l2b (tt1.symm.trans ht1)
 rw[show(Rows.laid_yardstick_digest_round (H:=Unit))=_ from C35]at hd0
 rw[show(Rows.laid_internal_strconv_uint64pow10 (H:=Unit))=_ from C34]at hd1
 have k0:=F_ (e:=113) (by kernel_rfl) (by kernel_rfl) (by kernel_rfl) (by kernel_rfl) hd0
 have k1:=F_ (e:=160) (by kernel_rfl) (by kernel_rfl) (by kernel_rfl) (by kernel_rfl) hd1
 intro L g cs hg i v hvv
 match g,hg with
 |0,hg=>
  have e:(E L).G 0=some (gl0.map unV):=rfl
  rw[e]at hg
  obtain rfl:=l2b hg
  rw[World.var?_cell hg0 hv0 i,<-l27,k0,<-C3H]
  exact hvv
 |1,hg=>
  have e:(E L).G 1=some (gl1.map unV):=rfl
  rw[e]at hg
  obtain rfl:=l2b hg
  rw[World.var?_cell hg1 hv1 i,<-l27,k1,<-C3F]
  exact hvv
 |g+2,hg=>
  exfalso
  have e:(E L).G (g+2)=(glB.get (g+2)).map λcs=>cs.map unV:=rfl
  have e1:Nat.beq (g+2) 1=false:=rfl
  have e2:Nat.blt (g+2) 1=false:=rfl
  have e3:glB.get (g+2)=none:=by
   unfold glB
   simp only[BT.get,e1,e2]
  rw[e,e3]at hg
  cases hg
theorem kL{z:Int}(h:(Lit.int .i64 z).wf=true):J7 z:=by
 have h1: -9223372036854775808<=z/\z<=9223372036854775807:=by simpa [Lit.wf,IntKind.min,IntKind.max,IntKind.signed,IntKind.bits] using h
 exact⟨h1.1,by omega⟩
theorem A3S{H:Type}{enc:TypeId×Value->H}{W:World}{base:Nat}{spare:Nat->Bool}{held:Bool}{fuel:Nat}{cs:List Value}{x:DataW H×List MemPlace}(h:DataW.trod enc Tryz.prog W base spare held fuel 22 cs=some x):
 cs=[.slice none 0 0]\/∃(a:Addr)(cap:Nat)(ys:List Y7),cs=[.slice (some a) ys.length cap]/\ys.length<=cap/\(∀y∈ys,y.Ok)/\∀i(hi:i<(ys.flatMap Y7.vs).length),W.cell? (a.add i)=some (ys.flatMap Y7.vs)[i]:=by
 rcases Deep.open_slice u22 h with⟨h0,_⟩|⟨a,len,cap,m,n,D,Pl,rfl,hb,hl,hm,hmm,rfl,hx⟩
 ·exact .inl h0
 right
 have hlm:len<=m:=by rw[hmm];split<;>omega
 have hrow:∀i,i<len->∃y:Y7,y.Ok/\∀j(hj:j<7),W.cell? (a.add (i*7+j))=(Y7.vs y)[j]?:=by
  intro i hi
  obtain⟨cs',hc,ht⟩:=hx i (by omega)
  rw[c90]at hc
  obtain⟨_,hl7,hcell⟩:=World.cells?_some hc
  obtain⟨xs,m',_,_,_,hn,hel⟩:=DataW.trod_array u90 ht
  have hz:∀j,j<7->∃z:Int,cs'[j]?=some (.int .i64 z)/\J7 z:=by
   intro j hj
   have h0:=hel j hj
   rw[c3,qZ,KL (show j<xs.length by omega)]at h0
   obtain⟨z,e1,_,e3⟩:=DataW.trod_int u3 h0
   have hj':j<cs'.length:=by omega
   refine⟨z,?_,?_⟩
   ·rw[KL hj']
    have e4:(cs'.drop j).take 1=[cs'[j]]:=by rw[uZ hj'];rfl
    rw[e4]at e1
    have:cs'[j]=.int .i64 z:=by simpa using e1
    rw[this]
   ·exact kL e3
  obtain⟨Z,hZ⟩:=Deep.choose_lt hz
  refine⟨⟨Z 0,Z 1,Z 2,Z 3,Z 4,Z 5,Z 6⟩,⟨(hZ 0 (by omega)).2,(hZ 1 (by omega)).2,(hZ 2 (by omega)).2,(hZ 3 (by omega)).2,(hZ 4 (by omega)).2,(hZ 5 (by omega)).2,(hZ 6 (by omega)).2⟩,λj hj=>?_⟩
  have hc2:W.cell? ((a.add (i*7)).add j)=cs'[j]?:=hcell j hj
  rw[Addr.add_add]at hc2
  rw[hc2,(hZ j hj).1]
  obtain rfl|rfl|rfl|rfl|rfl|rfl|rfl:j=0\/j=1\/j=2\/j=3\/j=4\/j=5\/j=6:=by omega
  all_goals rfl
 haveI:Inhabited Y7:=⟨⟨0,0,0,0,0,0,0⟩⟩
 obtain⟨V,hV⟩:=Deep.choose_lt hrow
 refine⟨a,cap,(List.range len).map V,by simp,by simpa using hl,λy hy=>?_,λi hi=>?_⟩
 ·obtain⟨k,hk,rfl⟩:=Rc.1 hy
  exact(hV k (KR.1 hk)).1
 ·have h7:(((List.range len).map V).flatMap Y7.vs).length=len*7:=by rw[A? Y7.vs 7 (λ_=>rfl)];simp
  have hi':i<len*7:=by omega
  have hd:i/7<len:=by omega
  have e:=B1b Y7.vs 7 (λ_=>rfl) ((List.range len).map V) (i/7) (i%7) (by simpa using hd) (by omega)
  rw[show i/7*7+i%7=i by omega,KL hi]at e
  have h1:=(hV (i/7) hd).2 (i%7) (by omega)
  rw[show i/7*7+i%7=i by omega]at h1
  rw[h1,e]
  simp
theorem A8e{W:World}{a:Addr}{v:Value}(h:W.cell? a=some v):a=⟨a.block,a.off,none⟩:=by
 obtain⟨b,o,sp⟩:=a
 cases sp with
 |none=>rfl
 |some k=>
  unfold World.cell? at h
  split at h
  ·simp at h
  ·cases h
theorem B2p{a:Addr}(i:Nat)(h:a=⟨a.block,a.off,none⟩):a.add i=⟨a.block,a.off+i,none⟩:=by
 rw[h]
 unfold Addr.add
 by_cases hi:i=0
 ·subst hi;rfl
 ·rw[CF hi]
theorem xK{H:Type}{enc:TypeId×Value->H}{P:Program}{f:Func}{s:ChangeSpec}{apart fresh U? again:Bool}{W W':World}{args:Array Value}{v:Value}{ds gs:List (DataW H)}{before pa pv:List MemPlace}(hW:DataW.Whole enc P f.params.toList s.vars apart W args.toList ds gs before)(hres:∀(b:Nat)(sp:Nat->Bool)(hd:Bool),DataW.TrodAll enc P W' b sp hd f.resultTypes.toList (v.resultList f.resultTypes.size) (s.fn H (ds++gs)).results [])(hargs:∀sp:Nat->Bool,(∀p∈before,sp p.block=true)->DataW.TrodAll enc P W' 0 sp true f.params.toList args.toList (s.fn H (ds++gs)).args pa)(hvars:∀sp:Nat->Bool,(∀p∈before,sp p.block=true)->DataW.TrodVars enc P W' sp s.vars (s.fn H (ds++gs)).vars pv)(hps:before=pa++pv)(hb:Below W.heap.size W W')(hok:∀(j:Nat)(t:TypeId)(r:Value),f.resultTypes[j]?=some t->(v.resultList f.resultTypes.size)[j]?=some r->Value.okWide P W' .any 0 t r):
 s.post enc P f apart fresh U? again W args v W':=by
 have hold:∀p∈before,(λb=>decide (b<W.heap.size)) p.block=true:=λp hp=>by simpa using hW.lt p hp
 have hlt:=hW.lt
 refine⟨ds,gs,before,[],pa,pv,hW,hres _ _ _,hargs _ hold,hvars _ hold,World.keptBut_mono (λp hp=>⟨hp,?_⟩) (hb.frame (· ∈before)),λ_=>?_⟩
 ·rw[hps,kB]at hp
  exact Or.inr hp
 ·obtain⟨_,_,_,_,_,hz,hn⟩:=hW
  refine⟨hok,_,_,([]++pa)++pv,⟨[]++pa,pv,trodAll_append (hargs _ (λ_ _=>rfl)) (hres _ _ _),hvars _ (λ_ _=>rfl),rfl,?_,?_⟩,?_⟩
  ·intro b off hp
   have hm:MemPlace.cell b off∈before:=by rw[hps];simpa using hp
   rw[hb.frozen (hlt _ hm)]
   exact hz b off hm
  ·intro ha
   have:=hn ha
   rw[hps]at this
   simpa using this
  ·intro p hp _
   rw[hps]
   simpa using hp
theorem B3V{H:Type}{enc:TypeId×Value->H}{W:World}{base:Nat}{spare:Nat->Bool}{held:Bool}{a0:Option Addr}{n0 k0:Nat}{d:DataW H}{p:List MemPlace}(h0:DataW.Trod enc Tryz.prog W base spare held 22 (.slice a0 n0 k0) d p):
 ∃xs:List Y7,(∀y∈xs,y.Ok)/\VRel (B1U W) W (.list xs.length (xs.flatMap Y7.cs)) (.slice a0 n0 k0):=by
 obtain⟨f,hf⟩:=h0
 rcases A3S hf with hc|⟨a,cap,ys,hc,hle,hok,hcell⟩
 ·simp only[Value.cells,List.cons.injEq,Value.slice.injEq,and_true]at hc
  obtain⟨rfl,rfl,rfl⟩:=hc
  exact⟨[],by simp,.list0⟩
 ·simp only[Value.cells,List.cons.injEq,Value.slice.injEq,and_true]at hc
  obtain⟨rfl,rfl,rfl⟩:=hc
  refine⟨ys,hok,?_⟩
  rw[C1C]
  refine B3q hle (λe=>by rw[mH e];rfl) (λi hi=>?_) (λe=>by rw[A? Y7.vs 7 (λ_=>rfl)];omega)
  have h0:=hcell 0 (by omega)
  have hs:a=⟨a.block,a.off,none⟩:=A8e (v:=(ys.flatMap Y7.vs)[0]'(by omega)) (by simpa [Addr.add] using h0)
  exact⟨a.block,a.off,by rw[<-hs],by rw[<-B2p i hs];exact hcell i hi⟩
end Go.Proofs.YtdaajghondabnaaGreatDoor
end
noncomputable section
namespace Go.Abs
open Go.RowKit Go.Proofs
set_option maxRecDepth 100000
theorem Xg{W:World}(hG:∀L(g:Nat)(cs:List Value),(E L).G g=some cs->∀(i:Nat)(v:Value),cs[i]?=some v->W.cell? ⟨g,i,none⟩=some v){xs:List Y7}{v0:Value}{z1:Int}{k2 b2 t2:Int}{z3:Int}(h0:VRel (B1U W) W (.list xs.length (xs.flatMap Y7.cs)) v0)(hok:∀y∈xs,y.Ok)(g1:J7 z1)(gk2:J7 k2)(gb2:J7 b2)(gt2:J7 t2)(g3:J7 z3):
 Calls Tryz.prog 3 #[v0,.int .i64 z1,.agg #[.int .i64 k2,.int .i64 b2,.int .i64 t2],.int .i64 z3] W λe W'=>e=.returned (.bool true)/\Below W.heap.size W W':=by
 obtain⟨L,hL⟩:∃L,200000<L:=⟨200001,by decide⟩
 have h:=wY (t:=t2) (L:=L) (n:=0) (xs:=xs) (a0:=.list xs.length (xs.flatMap Y7.cs)) (K:=λv _=>some (v,[])) hL (.inl rfl) hok g1 gk2 gb2 g3 (λ_=>rfl)
 have ac:=((A9A (L+20) (0+87)).call _ _ _ _ _ h).2 ⟨W,λ_=>False⟩ (B1U W) W [v0,.int .i64 z1,.agg #[.int .i64 k2,.int .i64 b2,.int .i64 t2],.int .i64 z3] (C54 (hG _)) ?_
 ·refine ac.mono λe W' ⟨v,y,C',H',he,hr,hv,_,hq⟩=>?_
  injection hq with hq
  injection hq with hq _
  subst hq
  have hy:y=.bool true:=AN.1 hv
  subst hy
  have hb:=hr.below
  exact⟨he,hb.os,hb.tape,hb.output,hb.size,λk hk=>hb.block k hk (λhf=>hf)⟩
 ·refine⟨rfl,λi v hv=>?_⟩
  match i,hv with
  |0,hv=>cases hv;exact⟨_,rfl,h0⟩
  |1,hv=>cases hv;exact⟨_,rfl,.v _⟩
  |2,hv=>cases hv;exact⟨_,rfl,.agg _ rfl (λi hi=>by match i,hi with|0,_=>exact .v _|1,_=>exact .v _|2,_=>exact .v _)⟩
  |3,hv=>cases hv;exact⟨_,rfl,.v _⟩
end Go.Abs
namespace Go.Proofs.YtdaajghondabnaaGreatDoor
open Go.ChangeShapes Go.WideShapes Go.ChangeAt Go.WideMaps Go.WideElems Go.RowKit Go.Abs
set_option maxRecDepth 100000
theorem cD:Tryz.prog.cellsOf 24=3:=by kernel_rfl
theorem A7o{H:Type}{enc:TypeId×Value->H}{W:World}{base:Nat}{spare:Nat->Bool}{held:Bool}{fuel:Nat}{cs:List Value}{x:DataW H×List MemPlace}(h:DataW.trod enc Tryz.prog W base spare held fuel 24 cs=some x):
 ∃k b t:Int,cs=[.int .i64 k,.int .i64 b,.int .i64 t]/\(J7 k/\J7 b/\J7 t)/\x=(.agg [.lit (.int .i64 k),.lit (.int .i64 b),.lit (.int .i64 t)],[]):=by
 obtain⟨xs,n,_,rfl,hl,hlen,hf⟩:=DataW.trod_struct Tryz.underlying24 h
 rw[cD]at hl
 match xs,hlen with
 |[y0,y1,y2],_=>
  match cs,hl with
  |[c0,c1,c2],_=>
   obtain⟨k,e0,rfl,w0⟩:=DataW.trod_int u3 (hf 0 _ rfl)
   obtain⟨b,e1,rfl,w1⟩:=DataW.trod_int u3 (hf 1 _ rfl)
   obtain⟨t,e2,rfl,w2⟩:=DataW.trod_int u3 (hf 2 _ rfl)
   have q0:c0=.int .i64 k:=by simpa [c3] using e0
   have q1:c1=.int .i64 b:=by simpa [c3] using e1
   have q2:c2=.int .i64 t:=by simpa [c3] using e2
   subst q0 q1 q2
   exact⟨k,b,t,rfl,⟨kL w0,kL w1,kL w2⟩,rfl⟩
theorem P! :Tryz.f3.params= #[22,3,24,3]:=by kernel_rfl
theorem Xf(os:Os)(started:os.Started)(H:Type)(enc:TypeId×Value->H):
 ReturnsInHanded {} Tryz.checked os 3 .any (λw args=>(Rows.exchangeRefusesSpec.pre enc Tryz.prog Tryz.f3 [] false w args/\laidMetH Tryz.prog Rows.exchangeRefusesRow.laid w)/\sizedMet enc Tryz.prog Tryz.f3 (OpenSpec.ofChange Rows.exchangeRefusesSpec) false w args)
  (Rows.exchangeRefusesSpec.post enc Tryz.prog Tryz.f3 false true false false):=by
 refine returnsInHanded_of_change_and (C:=Tryz.checked) (X:=λw _=>laidMetH Tryz.prog Rows.exchangeRefusesRow.laid w) (λ_ _ _ hh h=>h.of_heap hh) own started (by kernel_rfl) Tryz.func3
  (ChangeSpec.witness_shaped (enc:=enc) (C:=Tryz.checked) (os:=os) (X:=λw _=>laidMetH Tryz.prog Rows.exchangeRefusesRow.laid w) false (World.laidAll Tryz.prog os Rows.exchangeRefusesRow.laid) #[.slice none 0 0,.int .i64 0,.agg #[.int .i64 0,.int .i64 0,.int .i64 0],.int .i64 0] 8 (World.laidAll_os _ _ _)
   (World.shaped_of_ZipB (by kernel_rfl) (by kernel_rfl)) (by kernel_rfl) (by kernel_rfl) (by kernel_rfl)
   (by rw[MakeChecks.laidMetH_plain _ _ _ (by kernel_rfl)];exact laidMet_laidAll _ (by kernel_rfl) (by kernel_rfl))) ?_
 intro W base args ds gs before hval0 hW _ _ hL _
 have hval:∀(j:Nat)t v,Tryz.f3.params[j]?=some t->args[j]?=some v->Value.okWide Tryz.prog W .any base t v:=hval0
 have hW':=hW
 obtain⟨p,q,hA0,hV,rfl,hfz,hnd⟩:=hW
 have hA:DataW.TrodAll enc Tryz.prog W 0 (λ_=>true) true Tryz.f3.params.toList args.toList ds p:=hA0
 rw[P!]at hA hval
 obtain⟨v0,v1,v2,v3,d0,d1,d2,d3,p0,p1,p2,p3,rfl,rfl,rfl,h0,h1,h2,h3⟩:=trodAll_four hA
 obtain⟨rfl,rfl⟩:=trodVars_none hV
 obtain⟨a0,n0,k0,rfl⟩:=okWide_slice u22 (hval 0 22 v0 rfl rfl)
 obtain⟨z1,rfl,rfl,rfl,wz1⟩:=open_int u3 (hval 1 3 v1 rfl rfl) h1
 obtain⟨c2,rfl,sz2⟩:=okWide_struct Tryz.underlying24 (hval 2 24 v2 rfl rfl)
 obtain⟨l2⟩:=c2
 have hh2:=h2
 obtain⟨f2,hf2⟩:=hh2
 obtain⟨k2,b2,t2,e2,⟨gk2,gb2,gt2⟩, -⟩:=A7o hf2
 have e2:l2=[.int .i64 k2,.int .i64 b2,.int .i64 t2]:=by simpa [Value.cells] using e2
 subst e2
 obtain⟨z3,rfl,rfl,rfl,wz3⟩:=open_int u3 (hval 3 3 v3 rfl rfl) h3
 have hG:=B4K hL
 obtain⟨xs,hok,hx⟩:=B3V h0
 refine(Xg hG hx hok (kL wz1) gk2 gb2 gt2 (kL wz3)).mono λe W' ⟨he,hb⟩=>?_
 subst he
 simp only[V0]at hW'
 have hlt:=hW'.lt
 refine⟨_,rfl,xK (pa:=p0++p2) (pv:=[]) hW' (λ_ _ _=>trodAll_mk1 (shut_bool u4 true)) (λsp hsp=>?_) (λ_ _=>rfl) (by simp) hb (ok_one (by kernel_rfl) rfl (okWide_bool_mk u4 true))⟩
 show DataW.TrodAll enc Tryz.prog W' 0 sp true Tryz.f3.params.toList [.slice a0 n0 k0,.int .i64 z1,.agg #[.int .i64 k2,.int .i64 b2,.int .i64 t2],.int .i64 z3] [d0,.lit (.int .i64 z1),d2,.lit (.int .i64 z3)] (p0++p2)
 rw[P!]
 have h9:=trodAll_mk4 (WideElems.Trod_stays A5P (by kernel_rfl) (l2y (by kernel_rfl)) h0 (λx hx=>hb.same (hlt x (by simp[hx]))) (λx hx=>hsp x (by simp[hx])))
  (shut_int u3 wz1)
  (WideElems.Trod_stays A5P (by kernel_rfl) (l2y (by kernel_rfl)) h2 (λx hx=>hb.same (hlt x (by simp[hx]))) (λx hx=>hsp x (by simp[hx])))
  (shut_int u3 wz3)
 simpa using h9
end Go.Proofs.YtdaajghondabnaaGreatDoor
end
noncomputable section
namespace Go.Proofs.YtdaajghondabnaaGreatDoor
open Go.ChangeShapes Go.WideShapes Go.ChangeAt Go.WideMaps Go.WideElems Go.RowKit
set_option maxRecDepth 100000
theorem exchangeRefuses_holds:Rows.ExchangeRefusesSaid:=
 OpenClaim.holds_of_wide 3 Tryz.f3 rfl rfl rfl rfl rfl rfl rfl ⟨rfl,rfl,rfl,rfl,rfl⟩ rfl rfl rfl rfl rfl mR Tryz.func3 B5H
  (l2y (by kernel_rfl)) (by unfold Func.isWrapper;first|(rw[Dq (by decide+kernel)];kernel_rfl)|(rw[CF (by decide+kernel)];exact⟨rfl,rfl⟩))
  (λos started H enc _=>Xf os started H enc)
theorem C5l:Rows.exchangeRefusesRow.wfByText (OpenSpec.ofChange Rows.exchangeRefusesSpec)=true:=by kernel_rfl
theorem C00:Tryz.pinned.checked.prog.mainIs=some (true, "50e4d2ecfb47c889c9ad439061af9a5c4d46853118b163a7c6fe19fafb3d47eb".toList):=by kernel_rfl
theorem B51:true=Tryz.pinned.checked.prog.looks []:=by kernel_rfl
theorem A5J:Tryz.prog.funcs.any Func.goes=false:=by kernel_rfl
theorem C01:false=Rows.exchangeRefusesRow.goesBy Tryz.pinned.checked.prog:=by
 have h1:∀l:List FuncId,(l.any λg=>(Tryz.prog.funcs[g]?).any Func.goes)=false:=by
  intro l
  rw[List.any_eq_false]
  intro g _
  cases hg:Tryz.prog.funcs[g]? with
  |none=>simp
  |some fn=>
   have h2:=Array.any_eq_false.1 A5J
   obtain⟨hlt,e⟩:=l1v.1 hg
   have:=h2 g hlt
   rw[e]at this
   simpa using this
 have h3:Tryz.prog.goes 3=false:=by
  unfold Program.goes
  rw[h1,A5J,Bool.and_false,Bool.or_false]
 have hs:Rows.exchangeRefusesRow.start=.entering:=rfl
 have hp:Tryz.pinned.checked.prog=Tryz.prog:=rfl
 have hn:Tryz.prog.funcNamed Rows.exchangeRefusesRow.func=some 3:=mR
 unfold OpenClaim.goesBy Program.goesAt Program.goesFrom
 rw[hs,hp,hn,Option.any_some,h3]
 rfl
theorem B50:([22,3,24,3].all λu=>!Tryz.prog.wantsStandIn u)=true:=by kernel_rfl
theorem exchangeRefuses_card:Rows.ExchangeRefusesCardSaid:=
 Claim7.holds_tied_plain_at .later [] [.data,.data,.data,.data,.sentinel,.sentinel,.data,.pinned] true (true, "50e4d2ecfb47c889c9ad439061af9a5c4d46853118b163a7c6fe19fafb3d47eb") true
  exchangeRefuses_holds (λ_ h=>by cases h) C5l (λ_ h=>by cases h) exchangeRefuses_row_tie rfl ⟨rfl,rfl⟩ C00 rfl
  (λf fn hf hfn=>by
   obtain rfl:f=3:=l2b (mR.symm.trans hf)|>.symm
   obtain rfl:fn=Tryz.f3:=(l2b (Tryz.func3.symm.trans hfn)).symm
   exact⟨B51,λj t ht=>by
    rw[P!]at ht
    have hm:t∈[22,3,24,3]:=by simpa using Array.mem_of_getElem? ht
    exact(show Tryz.prog.wantsStandIn t=false by simpa using GG.1 B50 t hm)⟩)
  C01
end Go.Proofs.YtdaajghondabnaaGreatDoor
end
