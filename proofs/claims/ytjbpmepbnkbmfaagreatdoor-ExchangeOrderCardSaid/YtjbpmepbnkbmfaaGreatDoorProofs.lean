import Derived.Shelf.Strings.OnBuilder
import Derived.Shelf.Strings.Repeat
import Derived.Shelf.Sort.Plain
import Derived.Shelf.Spec.SlicesGrow
import Derived.Test.YtjbpmepbnkbmfaaGreatDoorProg
import Derived.ProofKit
import Derived.Deep.Slices
import Derived.OpenShut
import Derived.Test.YtjbpmepbnkbmfaaGreatDoorRows
import Derived.LaidMore
import Derived.Stop.Joined
import Derived.MakeChecks
import Derived.FnData
import Derived.DataElems
import Derived.Lay
import Derived.Test.YtjbpmepbnkbmfaaGreatDoorTie
import Derived.Test.YtjbpmepbnkbmfaaGreatDoorCards
import Derived.SevenTiedAt
import Derived.Test.YtjbpmepbnkbmfaaGreatDoorP27
import Derived.Test.YtjbpmepbnkbmfaaGreatDoorP28
import Derived.Test.YtjbpmepbnkbmfaaGreatDoorP29
set_option linter.all false
set_option maxHeartbeats 0
noncomputable section
namespace Go.Abs
open Go.RowKit Go.Proofs
set_option maxRecDepth 100000
section
variable{i r:Nat}
variable{L n:Nat}
section
variable{H H':Hp}{v a1 a2:AV}{l l1 l2:List AN}{K:KV}{x0:Af}
def A5J(h:MB H v l)(hn:l.length<1000000000)(m:∀H',MB H' v (Eu l)->Lat H H' (A8 v)->K (.tup []) H'=x0):
 (r! L (n+4)).call AM [v] H K=x0:=by
 rcases h with⟨rfl,rfl⟩|⟨r,q,b,rfl,c⟩
 ·have e:(r! L (n+4)).call AM [Aw] H K=K (.tup []) H:=by kernel_rfl
  rw[e];exact m H (.inl ⟨rfl,rfl⟩) (Lat.refl _ _)
 ·by_cases p:l=[]
  ·subst p;have e:(r! L (n+4)).call AM [.sl 1 r 0 0] H K=K (.tup []) H:=by
    have f:(r! L (n+4)).call AM [.sl 1 r 0 0] H K=TR [.sl 1 r 0 0] H K (ZA (E (L+20)) (nT (L+20)) (r! L (n+3)) AM [.sl 1 r 0 0] H K):=rfl;have j:ZA (E (L+20)) (nT (L+20)) (r! L (n+3)) AM [.sl 1 r 0 0] H K=K (.tup []) H:=by kernel_rfl
    rw[f,j];unfold TR;simp only[c];split
    ·rename_i xs _;cases xs<;>rfl
    ·rfl
   show(r! L (n+4)).call AM [.sl 1 r 0 0] H K=x0;rw[e];exact m H (.inr ⟨r,q,b,rfl,c⟩) (Lat.refl _ _)
  ·have f:∀K,(r! L (n+4)).call AM [.sl 1 r 0 l.length] H K=TR [.sl 1 r 0 l.length] H K (ZA (E (L+20)) (nT (L+20)) (r! L (n+3)) AM [.sl 1 r 0 l.length] H K):=λK=>rfl;rw[f];have k:∀(l:List Ha),V0 (AF l)=some l:=λl=>by
    induction l with
    |nil=>rfl
    |cons a l ih=>show(V0 (AF l)).map _=_;rw[ih];rfl
   have t:0<l.length:=List.length_pos_iff.2 p;have s:=(Bb l).length_eq;have j:∀alt K,TR [.sl 1 r 0 l.length] H K alt=Ey 0 (AF (Eu l)) (AF l++b) λd=>LJ H r (.cells q Au d) λH'=>K (.tup []) H':=λalt K=>by
    unfold TR;simp only[c,qV];rw[l32 (by rw[Be];omega),l25 (by rw[Be];omega),k];have g:(Nat.beq l.length l.length&&(Nat.blt l.length 4611686018427387904&&Nat.blt 0 l.length))=true:=by simp;omega
    simp only[g];rfl
   rw[j,It _ _ _ _ (by rw[Be,EN,Be];omega),Dh];have u:splice (AF l++b) 0 (AF (Eu l))=AF (Eu l)++b:=by
    unfold splice;rw[List.take_zero,l3b,JZ,Be,s]
    congr 1
    have:l.length=(AF l).length:=(Be l).symm;rw[this,List.drop_left]
   rw[u];refine m _ (.inr ⟨r,q,b,by rw[s],AC c⟩) (Lat.upd H r _ ⟨1,0,l.length,rfl⟩)
def SA.src(h:SA l v){F:Nat->Is->Af}:Tw H v F=F l.length (AF l):=by
 rcases h with rfl|⟨rfl,rfl⟩
 ·rfl
 ·rfl
def SA.ok(h:SA l v):(YD Ac.d&&Sj 1 v)=true:=by
 rcases h with rfl|⟨rfl,rfl⟩<;>rfl
def B6O{ss:List AN}(e:Bp H Au 1 v ss.length (AF ss))(b:SA l a1)(hn:ss.length+l.length<1000000):
 ∃a H',(∀K:KV,E0 Au 1 Ai Ac v a1 H K=K a H')/\Bp H' Au 1 a (ss++l).length (AF (ss++l))/\(∀u,A8 a u->u=Ar H)/\Lat H H' (A8 v):=by
 have⟨a,H',h1,h2,c,d⟩:=apt (ie:=Ai) (i2:=Ac) e (λK=>b.src (F:=K)) (by rw[Be,rT]) (lQ (λ_=>rfl) l) (by decide) rfl b.ok (by show(ss.length+l.length)*16<=_;omega) (by omega);refine⟨a,H',h1,?_,c,d⟩;rw[EN];have:AF (ss++l)=AF ss++AF l:=by simp[AF]
 rw[this];exact h2
def SA.cell(h:SA l v):B4 v=[v]/\AV.one v=true:=by rcases h with rfl|⟨_,rfl⟩<;>exact⟨rfl,rfl⟩
def A6E{q:Bool}{e:Nat}{cs:Is}{F:K2}(h:Ah H r=some (.cells q e cs))(hi:i<cs.length):AE Ac (.ptr r i 0) H F=F (cs.getD i .dk):=AL (p:=i) rfl h hi
def B2l{r i m:Nat}{F:K2}(h:i<m):D4 ER (.sl 1 r 0 m) (I (i:Int)) F=F (.ptr r i 0):=by
 have a:D4 ER (.sl 1 r 0 m) (I (i:Int)) F=iN (i:Int) λn=>ck (Nat.blt n m) (fN (Nat.add 0 (Nat.mul n 1)) λp=>F (.ptr r p 0)):=rfl;rw[a,JU,DF];have h1:Nat.blt i m=true:=by rw[Wg];exact h
 rw[h1];show F (.ptr r (0+i*1) 0)=_;rw[JZ,rT]
def B7W{k:Nat}(e:k<1000000)(a:k=0->K Aw H=x0)(b:0<k->K (.sl 1 (Ar H) 0 0) ((Ar H,.cells false Au [])::H)=x0):(r! L (n+1)).call Fa [Aw,I (k:Int)] H K=x0:=by
 have c:(r! L (n+1)).call Fa [Aw,I (k:Int)] H K=A2f Au [Aw,I (k:Int)] H K (ZA (E (L+20)) (nT (L+20)) (r! L n) Fa [Aw,I (k:Int)] H K):=rfl;rw[c];have d:∀alt,A2f Au [Aw,I (k:Int)] H K alt=@Bool.rec (λ_=>Af) (@Bool.rec (λ_=>Af) alt (K Aw H) (Nat.beq k 0)) (HE H λr=>K (.sl 1 r 0 0) ((r,.cells false Au [])::H)) (Nat.blt 0 k&&Nat.ble k 1000000):=λalt=>rfl;rw[d];by_cases h:k=0
 ·subst h;exact a rfl
 ·have g:(Nat.blt 0 k&&Nat.ble k 1000000)=true:=by simp;omega
  rw[g,<-b (by omega)];exact BS _ _
def A9L(wf:Wf H)(hr:Ah H r=some (.cells false A7 [a1,a2]))(h1:SA l1 a1)(h2:SA l2 a2)(V:l1.length<100000)(X:l2.length<100000)(hL:40000<L)(R:∀v H',NewSl H (l1++l2) v H'->K v H'=x0):
 (r! L (n+2)).call Gv [.sl 1 r 0 2] H K=x0:=by
 rw[Nz];unfold Gg A4;simp only[BF];have el:∀{F:K2},Ba ER (.sl 1 r 0 2) F=F (I ((2:Nat):Int)):=λ{F}=>r_ rfl;have Q:(AV.v (.int .i64 0))=I ((0:Nat):Int):=rfl;have C:∀{c}{F:K2},Ah c r=some (.cells false A7 [a1,a2])->(D4 ER (.sl 1 r 0 2) (I ((0:Nat):Int)) λp=>AE Ac p c F)=F a1:=λ{c F}h=>by
  rw[B2l (by decide),A6E h (by simp)];rfl
 have D:∀{c}{F:K2},Ah c r=some (.cells false A7 [a1,a2])->(D4 ER (.sl 1 r 0 2) (I ((1:Nat):Int)) λp=>AE Ac p c F)=F a2:=λ{c F}h=>by
  rw[B2l (by decide),A6E h (by simp)];rfl
 rw[el,Q];have s:∀{a b:Nat}{F:K2},a+b<1000000->Aq Ad .add (I (a:Int)) (I (b:Int)) F=F (I ((a+b:Nat):Int)):=λ{a b F}h=>by
  rw[Dp,CX (by omega) (by omega)];simp
 have M:∀{a:Nat}{F:K2},Aq Ad .lss (I (a:Int)) (AV.v (.int .i64 0)) F=F (Bo false):=λ{a F}=>by rw[DO,Ir (by omega)]
 have tail:∀(v:AV)(c:Hp),Bp c Au 1 v 0 (AF [])->(∀u,A8 v u->Ar H<=u)->Wf c->(∀u y,Ah H u=some y->Ah c u=some y)->Ar H<=Ar c->
  ∀d1 d2 t w B:AV,FP (L+20) (r! L (n+1)) K (λq f=>K q f) (L+20) d1 d2 v t w B (.sl 1 r 0 2) (I ((2:Nat):Int)) (I ((0:Nat):Int)) c=x0:=λv c Y hv w1 k1 n1 d1 d2 t w B=>by
  have lat:∀{v:AV}{c e:Hp},(∀u,A8 v u->Ar H<=u)->Lat c e (A8 v)->Wf c->(∀u y,Ah H u=some y->Ah c u=some y)->∀u y,Ah H u=some y->Ah e u=some y:=λ{v c e}hv k w1 k1 u y d=>
   k.keep w1 u y (k1 u y d) λhr=>by have:=hv u hr;have:=wf.lt d;omega
  have⟨v2,e,Z,s2,s3,j⟩:=B6O (ss:=[]) Y h1 (by simp;omega);have O:=j.wf w1;have J:=lat hv j w1 k1;have n2:=j.nx;have⟨v3,P,t1,N,t3,m⟩:=B6O (ss:=[]++l1) s2 h2 (by simp;omega);have g:∀u,A8 v2 u->Ar H<=u:=λu d=>by have:=s3 u d;omega
  have k3:=lat g m O J;rw[Fv];unfold Dy Ia A4;rw[XA2 (by omega),Cy,C (k1 _ _ hr),Z,CW (by omega),Fv];unfold Dy Ia A4;rw[XA2 (by omega),Cy,D (J _ _ hr),t1,CW (by omega),Fv];unfold Dy Ia A4;rw[Fk (by omega),AY];have n3:=m.nx;exact R v3 P ⟨by rw[l3b]at N;exact N,λu d=>by have:=t3 u d;omega,m.wf O,k3,by omega⟩
 rw[Fu];unfold Dx Ia A4;simp only[BF];rw[XA2 (by omega),Cy,C hr,h1.len,s (by omega),M,AY,CW (by omega),Fu];unfold Dx Ia A4;simp only[BF];rw[XA2 (by omega),Cy,D hr,h2.len,s (by omega),M,AY,CW (by omega),Fu];unfold Dx Ia A4;rw[Fk (by omega),AY];refine B7W (n:=n) (by omega) (λhz=>?_) (λhp=>?_)
 ·rw[el];exact tail Aw H (.inl ⟨rfl,rfl,rfl⟩) (λu d=>absurd d HY) wf (λu y d=>d) (MC _) _ _ _ _ _
 ·rw[el];exact tail _ _ (.inr ⟨Ar H,false,rfl,Ay (by simp),rfl⟩) (λu ⟨_,_,_,d⟩=>by injection d with _ d;omega) (AG wf) (λu y d=>A6 (wf.lt d) d) (l1u _) _ _ _ _ _
end
end
section
variable{L n:Nat}
section
variable{H H0 H':Hp}{v a1 a2 lv:AV}{l ex:List AN}{A:ed}{K:KV}{x w:AV}
def A78{Hs:Hp}(s:Vo 6 w w=true)(c:A.length<1000)(B:40000<L)(ws:Wf Hs)(t:∀l v H',l.Perm A->NewC Hs l v H'->K v H'=some (w,[])):
 (r! L (n+4)).call Br [.imap (Dd DU (gE A))] Hs (λv H=>(r! L (n+4)).call BG [v] H K)=some (w,[]):=by
 rw[Du];unfold BD Ih;rw[wJ];have w1:=AG (x:=.cells true Az [.imap (Dd DU (gE A))]) ws;have hb:Ah ((Ar Hs,c_ Az [.imap (Dd DU (gE A))])::Hs) (Ar Hs)=some (c_ Az [.imap (Dd DU (gE A))]):=Ay (by simp);have h:∀u y,Ah Hs u=some y->Ah ((Ar Hs,c_ Az [.imap (Dd DU (gE A))])::Hs) u=some y:=λu y a=>A6 (ws.lt a) a;have j:Ar ((Ar Hs,c_ Az [.imap (Dd DU (gE A))])::Hs)=Ar Hs+1:=rfl;generalize ((Ar Hs,c_ Az [.imap (Dd DU (gE A))])::Hs:Hp)=g at w1 hb h j;refine eU (n:=n+1) (Q:=λl _=>l.Perm A) (H0:=g) w1 w1 rfl (λu y a=>a) (λH F hc q e m=>?_) (λl v H' hq b=>?_)
 ·rw[Df];unfold B5;simp only[BF];rw[AL (p:=0) rfl (e _ _ hb) (by simp)];show XP (.imap (Dd DU (gE A))) H _=_;rw[XO];have i:=hc.wf;have f:Ah ((Ar H,Row.iter (Dd DU (gE A)) none)::H) (Ar H)=some (.iter (Dd DU (gE A)) none):=Ay (by simp);refine zU (n:=n) (A:=A) (H0:=g) s c (λl v H' r k d=>m l v H' r k d) ⟨by omega,by omega,by omega⟩ (L+20) (gE A) [] Aw _ none (by simp[gE];omega) (by rw[B1I];simp) (λ_=>rfl)
   (hc.more (AG i) λu y a=>A6 (i.lt a) a) HY f
 ·refine t l v H' hq ⟨b.sl,b.nil,λu a=>?_,b.wf,λu y a=>b.keep u y (h u y a),?_⟩
  ·have:=b.new u a;omega
  ·have:=b.nx;omega
def pkA(p:Pk):Is:=[I p.kd,Di p.ds,match p.cs with|[]=>Aw|c::cs=>.list (c::cs).length ((c::cs).flatMap PC.cells)]
def yC(l:List Pk):AV:=match l with
 |[]=>Aw
 |p::l=>.list (p::l).length ((p::l).flatMap pkA)
def C0m{ws:List AN}:pl 6 (yC (wP ws))=true:=by
 unfold wP;split
 ·rfl
 ·show([I 2,Di ws,Aw]++[]).all (pl 5)=true;have:pl 5 (Di ws)=true:=B6Z (p:=pl 5) rfl (λ_ _ _ h=>h) ws;simp only[Vq,qU,this];rfl
def C0Y{D:Nat}{b:Bool}(h:MB H v l)(c:l≠[]):Fx b (D+1) v (Di l) H true:=by
 rcases h with⟨_,h⟩|⟨r,q,d,rfl,h2⟩
 ·exact absurd h c
 ·have e:Di l=.list l.length (AF l):=by
   cases l with
   |nil=>exact absurd rfl c
   |cons a b=>rfl
  rw[e];refine XF (q':=false) h2 (by rw[EN,Be];omega) ?_;rw[qV,l32 (by rw[Be];omega),l25 (by rw[Be];omega)];exact Lz (λs=>Value.string ⟨⟨s⟩⟩) l
def ckT{X:Af}:ck true X=X:=rfl
def B6d(h1:B4 a1=[a1]/\AV.one a1=true)(h2:B4 a2=[a2]/\AV.one a2=true):GF A7 1 Ac 2 [(0,1,a1),(1,1,a2)] H K=K (.sl 1 (Ar H) 0 2) ((Ar H,.cells false A7 [a1,a2])::H):=by
 have c:GF A7 1 Ac 2 [(0,1,a1),(1,1,a2)] H K=He a1 λvs=>HN vs 0 λn=>ck (Nat.beq n 1) (ck (Oe vs) (Ey 0 vs [Aw,Aw] λb=>He a2 λvs=>HN vs 0 λn=>ck (Nat.beq n 1) (ck (Oe vs) (Ey 1 vs b λa=>HE H λs=>K (.sl 1 s 0 2) ((s,.cells false A7 a)::H))))):=r_ rfl;have e:Oe [a1]=true:=by rw[FM];simp[h1.2]
 have f:Oe [a2]=true:=by rw[FM];simp[h2.2]
 have k1:Nat.beq (0+[a1].length) 1=true:=rfl;have d:Nat.beq (0+[a2].length) 1=true:=rfl;rw[c,CP,h1.1,C4,e,k1,ckT,ckT,It _ _ _ _ (by simp)];show(He a2 λvs=>HN vs 0 λn=>ck (Nat.beq n 1) (ck (Oe vs) (Ey 1 vs [a1,Aw] λa=>HE H λs=>K (.sl 1 s 0 2) ((s,.cells false A7 a)::H))))=_;rw[CP,h2.1,C4,f,d,ckT,ckT,It _ _ _ _ (by simp),BS];rfl
def B2u{c:Int}(h1:B4 a1=[a1]/\AV.one a1=true)(h2:B4 a2=[a2]/\AV.one a2=true):GF A5 3 AI 1 [(0,3,.agg [I c,a1,a2])] H K=K (.sl 3 (Ar H) 0 1) ((Ar H,.cells false A5 [I c,a1,a2])::H):=by
 have b:GF A5 3 AI 1 [(0,3,.agg [I c,a1,a2])] H K=He (.agg [I c,a1,a2]) λvs=>HN vs 0 λn=>ck (Nat.beq n 3) (ck (Oe vs) (Ey 0 vs [I 0,Aw,Aw] λa=>HE H λs=>K (.sl 3 s 0 1) ((s,.cells false A5 a)::H))):=r_ rfl;have d:Oe [I c,a1,a2]=true:=by rw[FM];simp[h1.2,h2.2];rfl
 have hc:B4 (.agg [I c,a1,a2])=[I c,a1,a2]:=rfl;have k1:Nat.beq (0+[I c,a1,a2].length) 3=true:=rfl;rw[b,CP,hc,C4,d,k1,ckT,ckT,It _ _ _ _ (by simp),BS];rfl
def A9h(d:GOk A)(hL:200000<L)(hx:sF H x A)(hv:rG H lv ex)(he:ex.length<=40){F:K2}:Ap (r! L (n+82)) XA3 [x,lv] H F=F (yC (eQ A ex)):=by
 have⟨q1,u⟩:=hx.fx (D:=7);obtain⟨N,q2,Z,y⟩:∃Q q,SA ex Q/\Fx true depth lv Q H q:=by
  rcases hv with h|h
  ·exact⟨lv,false,h,h.fx H⟩
  ·exact h.fx (D:=11)
 refine AO (λK f=>?_) (Al u (Al y AD));have hw:Vo 6 (yC (eQ A ex)) (yC (eQ A ex))=true:=TB 6 _ C0m;rw[TL];unfold Ki DN A4;have xf:∀{F:K2},(LG (.iptr [.imap (Dd DU (gE A))]) λv1=>CI 0 v1 λO=>AE Aj O [] F)=F (.imap (Dd DU (gE A))):=λ{F}=>A12;rw[xf];refine A78 (n:=n+77) hw (by have:=d.len;omega) (by omega) Ft λl v P k t=>?_;have i:GOk l:=⟨λc hc=>d.ok c (k.mem_iff.1 hc),λc hc=>d.nd c (k.mem_iff.1 hc),(k.map _).symm.nodup d.ids,by rw[k.length_eq];exact d.len⟩
 have⟨q3,C⟩:=vW (D:=11) t.sl t.nil;have e:∀{F:K2},Ap (r! L (n+81)) Jw [v] P F=F (Di (J0 A)):=λ{F}=>by
  have:=AO (H:=P) (K:=F) (zR (L:=L) (n:=n+1) i (by omega) (λc hc=>by have:=Q7 (i.ok c hc);omega) (OS l)) (Al C AD);rw[this,A4t k]
 rw[e,B6d Z.cell (Lo _).cell];have w1:=t.wf;have w2:=AG (x:=.cells false A7 [N,Di (J0 A)]) w1;have R:=A4u d;refine A9L (n:=n+79) w2 (Ay (by simp)) Z (Lo _) (by omega) (by omega) (by omega) λO H2 g=>?_;have J:MB H2 O (ex++J0 A):=by
  rcases g.sl with⟨rfl,h1,h2⟩|⟨r,q,rfl,h2,_⟩
  ·refine .inl ⟨rfl,?_⟩;exact gM h1
  ·exact .inr ⟨r,q,[],rfl,by rw[Vq];exact h2⟩
 refine A5J (n:=n+77) J (by rw[EN];omega) λH3 M k3=>?_;have w3:=k3.wf g.wf;refine B6N (n:=n+80) w3 M (by rw[(Bb _).length_eq,EN];omega) (by omega) λv4 H4 a Y V k4=>?_;have e4:RU (Eu (ex++J0 A))=xO A ex:=rfl;rw[e4]at a;rw[a.len,CV];have aa:=B3v d (ex:=ex) he;unfold eQ at f⊢;by_cases hz:xO A ex=[]
 ·rw[Dv hz]at f⊢;rw[Hu (by rw[hz];rfl),Cy];exact f _ _ λb=>⟨false,C7⟩
 ·rw[CL hz]at f⊢;have X:0<(xO A ex).length:=List.length_pos_iff.2 hz;rw[Ir (by omega),AY,a.len];have p:∀{F:K2},eMM true (I ((xO A ex).length:Int)) (AV.v (.int .i64 64)) F=F (I ((xO A ex).length:Int)):=λ{F}=>B2d (by omega);rw[p];rcases a with⟨_,h⟩|⟨r,q,tl,rfl,j⟩
  ·exact absurd h hz
  have s:∀{F:K2},D3 Ac (.sl 1 r 0 (xO A ex).length) none (some (I ((xO A ex).length:Int))) none F=F (.sl 1 r 0 (xO A ex).length):=λ{F}=>VY (MC _);have m:∀{F:K2},Cb AI [(0,1,(AV.v (.int .i64 2))),(1,1,.sl 1 r 0 (xO A ex).length)] F=F (.agg [I 2,.sl 1 r 0 (xO A ex).length,Aw]):=λ{F}=>by kernel_rfl
  rw[s,m,B2u ⟨rfl,rfl⟩ ⟨rfl,rfl⟩];have w4:=k4.wf w3;have B:=A6 (x:=.cells false A5 [I 2,.sl 1 r 0 (xO A ex).length,Aw]) (w4.lt j) j;refine f _ _ λb=>⟨true,?_⟩
  show Fx b depth _ (.list 1 ([I 2,Di (xO A ex),Aw]++[])) _ true;exact Yb (D:=11) (q':=true) (Ay (by simp)) rfl (Al (q:=false) C7 (Al (q:=true) (q':=false) (C0Y (D:=10) (.inr ⟨r,q,tl,rfl,B⟩) hz) (Al (q:=false) C7 AD)))
end
end
section
variable{P:Af->Prop}
variable{L n:Nat}
section
variable{H H':Hp}{v dv cv:AV}{A:ed}{K:KV}{x0:Af}{x:AV}{r m:Nat}{p:PC}{q:Pk}
structure StAt(H:Hp)(r m:Nat)(A:ed):Prop where
 st:Ah H r=some (c_ D6 [.mp m])
 mm:Ah H m=some (.map false (Dd DU (gE A)) none)
def StAt.sv(h:StAt H r m A):sF H (.ptr r 0 0) A:=.inr ⟨r,m,rfl,h.st,h.mm⟩
def StAt.ne(h:StAt H r m A):r≠m:=λe=>by
 have:=h.mm;rw[<-e,h.st]at this;cases this
def StAt.keep(h:StAt H r m A)(k:∀u y,Ah H u=some y->Ah H' u=some y):StAt H' r m A:=⟨k _ _ h.st,k _ _ h.mm⟩
def B6L:(r! L (n+1)).call Pm [] H K=K (.ptr (Ar H+1) 0 0) ((Ar H+1,c_ D6 [.mp (Ar H)])::(Ar H,.map false [] none)::H):=by
 rw[mX];unfold Ta q0N;have em:∀(H:Hp)(K:KV),Ld Ae H K=K (.mp (Ar H)) ((Ar H,.map false [] none)::H):=λH K=>by
  show HE H (λs=>K (.mp s) ((s,.map false [] (fL Ae.d))::H))=_;rw[BS];rfl
 have a:∀{m:Nat}{F:K2},Cb CZ [(0,1,.mp m)] F=F (.agg [.mp m]):=λ{m F}=>by kernel_rfl
 rw[em,a,DZ (by rfl)];rfl
def B1c(wf:Wf H):StAt ((Ar H+1,c_ D6 [.mp (Ar H)])::(Ar H,.map false [] none)::H) (Ar H+1) (Ar H) []/\Wf ((Ar H+1,c_ D6 [.mp (Ar H)])::(Ar H,.map false [] none)::H)/\
 ∀u y,Ah H u=some y->Ah ((Ar H+1,c_ D6 [.mp (Ar H)])::(Ar H,.map false [] none)::H) u=some y:=by
 have w1:=AG (x:=.map false [] none) wf;have b:Ar ((Ar H,Row.map false [] none)::H)=Ar H+1:=rfl;refine⟨⟨Ay (H:=(Ar H,Row.map false [] none)::H) (by simp),A6 (H:=(Ar H,Row.map false [] none)::H) (by rw[b];omega) (Ay (by simp))⟩,AG (x:=.cells true D6 [.mp (Ar H)]) w1,λu y a=>?_⟩;have a1:=A6 (x:=.map false [] none) (wf.lt a) a;exact A6 (w1.lt a1) a1
def TE(A:ed):PC->ed×Bool×Int
 |.z=>(A,false,280)
 |.c d=>if d.id∈A.map Cd.id then(A,false,0) else(A++[d],true,0)
def C5Q:(Dd DU (gE A)).length=A.length:=by simp[gE]
def A9P(hL:40000<L)(B:p.Ok)(wf:Wf H)(Q:StAt H r m A)(O:A.length<60)(j:∀H',StAt H' r m (TE A p).1->Lat H H' (λu=>u=m)->P (K (.tup [Bo (TE A p).2.1,I (TE A p).2.2]) H')):P ((r! L (n+65)).call G6 [.ptr r 0 0,.agg p.cells] H K):=by
 rw[UP];unfold K6 LF;rw[DZ p.one];have w1:=AG (x:=.cells true Ab p.cells) wf;have D:∀u y,Ah H u=some y->Ah ((Ar H,c_ Ab p.cells)::H) u=some y:=λu y e=>A6 (wf.lt e) e;have b1:Ah ((Ar H,c_ Ab p.cells)::H) (Ar H)=some (c_ Ab p.cells):=Ay (by simp);have n1:Ar ((Ar H,c_ Ab p.cells)::H)=Ar H+1:=rfl;generalize ((Ar H,c_ Ab p.cells)::H:Hp)=N at w1 D b1 n1;rw[Bu rfl p.len.symm b1,B6J (n:=n) hL B];have V:=Q.keep D;rw[A3y V.st];refine A6f (b:=gE A) (F:=λab ac X=>Aq Ai .eql (S p.id) (AV.v (.string ⟨⟨[]⟩⟩)) λad=>_) (λF=>XM V.mm) λa h2=>?_;have⟨cc,s⟩:=h2;have R:∀u y,Ah N u=some y->Ah a u=some y:=λu y e=>by
  have:=w1.lt e;rw[s,Ag (by omega)];exact A6 this e
 have w2:Wf a:=by rw[s];exact Bm (AG w1)
 have n2:Ar H<=Ar a:=by rw[s,B9];show Ar H<=Ar N+1;omega
 have k:∀u y,Ah H u=some y->Ah a u=some y:=λu y e=>R u y (D u y e);have g:=Q.keep k;have C:Lat H a (λu=>u=m):=⟨λ_=>w2,n2,λ_ u y e _=>k u y e⟩
 have w:∀{F:K2},Aq Ai .eql (S p.id) (AV.v (.string ⟨⟨[]⟩⟩)) F=F (Bo (decide (p.id=[]))):=λ{F}=>MA;simp only[w];cases p with
 |z=>
  rw[show decide (PC.z.id=[])=true from rfl,Cy];exact j a g C
 |c d=>
  rw[show decide ((PC.c d).id=[])=false from Ir (wR d),AY];have ef:Lg (gE A) (PC.c d).id=Lg (gE A) d.id:=rfl;rw[ef,jT];by_cases i:d.id∈A.map Cd.id
  ·rw[Hu i,Cy];have t:TE A (.c d)=(A,false,0):=Dv i;rw[t]at j;exact j a g C
  ·rw[Ir i,AY];have t:TE A (.c d)=(A++[d],true,0):=CL i;rw[t]at j;rw[A3y g.st,wF g.mm,C5Q];have Y:∀{F:K2},Aq Ad .geq (I (A.length:Int)) (AV.v (.int .i64 64)) F=F (Bo false):=λ{F}=>by rw[Mi,Ir (by omega)]
   rw[Y,AY];have b2:=R _ _ b1;have Z:∀{F:K2},(Ax (LG (.ptr r 0 0) λv=>some (v,[])) λJ=>Ax (CI 0 J λv=>some (v,[])) λM=>Ax (AE Aj M a λv=>some (v,[])) F)=F (.mp m):=λ{F}=>by
    rw[Iy,B1,fA,B1,JZ,AL (p:=0) rfl g.st (by simp),B1];rfl
   rw[Z,Bu rfl (PC.len (.c d)).symm b2,B1];have aa:=Q7 B.1;show P (Ax (Ap (r! L (n+64)) LC [.agg d.cs] a λv=>some (v,[])) _);rw[CT.z (A1i (n:=n+62) B.1 (by omega)) (wT a),B1,A02];show P (Ei (Mg (.mp m) (SV d.id) (DU d) a λH=>some (AV.v undef,H)) _);rw[ZW (f:=DU) (b:=gE A) (v:=d) g.mm,BK,ZM (by rw[XD];exact i),B1J];refine j _ ⟨by rw[Ag g.ne];exact g.st,(BC g.mm).trans rfl⟩ (C.trans (Lat.upd a m _ (P:=λu=>u=m) rfl) (λ_ _ h=>h) (λ_ _ h=>h))
def B89(c:40000<L)(d:p.Ok)(wf:Wf H)(e:StAt H r m A)(b:A.length<60)(f:∀H',StAt H' r m (TE A p).1->Lat H H' (λu=>u=m)->K (.tup [Bo (TE A p).2.1,I (TE A p).2.2]) H'=x0):(r! L (n+65)).call G6 [.ptr r 0 0,.agg p.cells] H K=x0:=
 A9P (P:=λa=>a=x0) c d wf e b f
def A9u(d:40000<L)(e:p.Ok)(wf:Wf H)(f:StAt H r m A)(a:A.length<60)(g:∀H',StAt H' r m (TE A p).1->Lat H H' (λu=>u=m)->P (K (I (TE A p).2.2) H')):P ((r! L (n+66)).call Fc [.ptr r 0 0,.agg p.cells] H K):=by
 rw[UQ];unfold K7 A4;rw[DZ p.one];have w1:=AG (x:=.cells true Ab p.cells) wf;have k:∀u y,Ah H u=some y->Ah ((Ar H,c_ Ab p.cells)::H) u=some y:=λu y b=>A6 (wf.lt b) b;have b1:Ah ((Ar H,c_ Ab p.cells)::H) (Ar H)=some (c_ Ab p.cells):=Ay (by simp);have c:=f.keep k;have j:Lat H ((Ar H,c_ Ab p.cells)::H) (λu=>u=m):=Lat.cons _ _ _;rw[c.sv.nn,AY,Bu rfl p.len.symm b1];refine A9P (n:=n) d e w1 c a λH' s i=>?_;rw[Fm,Pq];exact g H' s (j.trans i (λ_ _ h=>h) (λ_ _ h=>h))
def C55(H:Hp)(v:AV)(q:Pk):Prop:=∃dv cv,v=.agg [I q.kd,dv,cv]/\rG H dv q.ds/\Yt H cv q.cs
def C5w{s:AN}:CS (r! L (n+1)) J9 [S s] (Bo (decide (s.length≠32))):=by
 intro K d;rw[Xu];unfold LW Ih;have a:∀{F:K2},Ba Ai (S s) F=F (I (s.length:Int)):=λ{F}=>by
  have:Ba Ai (S s) F=HN s 0 λn=>F (.v (.int .i64 (.ofNat n))):=r_ rfl;rw[this,C4,JZ];rfl
 have c:(!decide ((s.length:Int)=32))=decide (s.length≠32):=by
  by_cases h:s.length=32
  ·simp[h]
  ·simp[h];omega
 rw[a,I2,c];exact d _ _ λb=>⟨false,C7⟩
abbrev r1F:AV:=.fn (.func J9) [] []
def A9r(Z:40000<L)(u:SA q.ds dv)(hc:Yt [] cv q.cs)(X:q.ds.length<1000)(V:q.cs.length<1000):CS (r! L (n+4)) M0 [.agg [I q.kd,dv,cv]] (Bo (@decide q.Right (Classical.propDecidable _))):=by
 intro K i;rw[fJ];unfold Qd Ih;have B:AV.one cv=true:=hc.one.2;have C:AV.one dv=true:=u.cell.2;rw[DZ (by simp[B,C];rfl)];have D:Ar ([]:Hp)=0:=rfl;simp only[D];have a:Ah [(0,c_ A5 [I q.kd,dv,cv])] 0=some (c_ A5 [I q.kd,dv,cv]):=rfl;have c:∀{j:Nat}{F:K2},CI j (.ptr 0 0 0) F=F (.ptr 0 j 0):=λ{j F}=>by rw[fA,JZ]
 generalize [(0,c_ A5 [I q.kd,dv,cv])]=H at a;have g:∀{F:K2},AE Ad (.ptr 0 0 0) H F=F (I q.kd):=λ{F}=>AL (p:=0) rfl a (by simp);have w:∀{F:K2},AE Ac (.ptr 0 1 0) H F=F dv:=λ{F}=>AL (p:=1) rfl a (by simp);have N:∀{F:K2},AE Am (.ptr 0 2 0) H F=F cv:=λ{F}=>AL (p:=2) rfl a (by simp);have d1:∀{F:K2},Ba Ac dv F=F (I q.ds.length):=λ{F}=>u.len;have d2:∀{F:K2},Ba Am cv F=F (I q.cs.length):=λ{F}=>by
  rcases hc with⟨rfl,h⟩|rfl|⟨_,_,_,_,h⟩
  ·rw[h];rfl
  ·exact r_ rfl
  ·simp[Ah]at h
 have Q:∀{F:K2},Aq Ad .gtr (I (q.ds.length:Int)) (AV.v (.int .i64 64)) F=F (Bo (decide (64<q.ds.length))):=λ{F}=>by rw[Eh];congr 3;simp;omega
 have R:∀{F:K2},Aq Ad .gtr (I (q.cs.length:Int)) (AV.v (.int .i64 64)) F=F (Bo (decide (64<q.cs.length))):=λ{F}=>by rw[Eh];congr 3;simp;omega
 have O:∀{F:K2},Aq Ad .eql (I (q.ds.length:Int)) (AV.v (.int .i64 0)) F=F (Bo (decide (q.ds=[]))):=λ{F}=>by rw[CV];congr 3;simp
 have Y:∀{F:K2},Aq Ad .eql (I (q.cs.length:Int)) (AV.v (.int .i64 0)) F=F (Bo (decide (q.cs=[]))):=λ{F}=>by rw[CV];congr 3;simp
 have k1:∀{z:Int}{F:K2},Aq Ad .eql (I q.kd) (AV.v (.int .i64 z)) F=F (Bo (decide (q.kd=z))):=λ{z F}=>CV;have t:∀{F:K2},Ap (r! L (n+3)) B8 [dv,r1F] H F=F (Bo (q.ds.any λs=>decide (s.length≠32))):=λ{F}=>
  AO (sZ (n:=n+1) u (λs K=>by
   have e:CH (E (L+20)) (r! L (n+1)) r1F [S s] [] K=Ap (r! L (n+1)) J9 [S s] [] λv=>K v []:=by kernel_rfl
   rw[e];exact AO C5w (Al (q:=false) C7 AD)) (λK=>rfl) (by omega) (by omega)) (Al (u.fx H) (Al (q:=false) (λK=>rfl) AD))
 simp only[c,w,d1,Q];by_cases h1:64<q.ds.length
 ·have hn:¬q.Right:=λ⟨h,_⟩=>by omega
  simp only[Hu h1,F!,BK,SJ];rw[Cy];rw[@decide_eq_false _ (_) hn]at i⊢;exact i _ _ λb=>⟨false,C7⟩
 simp only[Ir h1,gT,gU,BK,c,N,d2,R,QA];by_cases h2:64<q.cs.length
 ·have hn:¬q.Right:=λ⟨_,h,_⟩=>by omega
  simp only[Hu h2,F!,BK,SJ];rw[Cy];rw[@decide_eq_false _ (_) hn]at i⊢;exact i _ _ λb=>⟨false,C7⟩
 simp only[Ir h2,gT,gU,BK,c,w,t,QA];by_cases k:∀s∈q.ds,s.length=32
 rotate_left
 ·have hn:¬q.Right:=λ⟨_,_,h,_⟩=>k h;have y:(q.ds.any λs=>decide (s.length≠32))=true:=by
   simp only[Classical.not_forall]at k;have⟨s,J,M⟩:=k;exact List.any_eq_true.2 ⟨s,J,by simpa using M⟩
  rw[y,Cy];rw[@decide_eq_false _ (_) hn]at i⊢;exact i _ _ λb=>⟨false,C7⟩
 have y:(q.ds.any λs=>decide (s.length≠32))=false:=by
  rw[List.any_eq_false];intro s J;simp[k s J]
 rw[y,AY];simp only[c,N,d2,Y];have fin:∀(b:Bool)(H:Hp),(b=true↔q.Right)->K (Bo b) H=some (Bo (@decide q.Right (Classical.propDecidable _)),[]):=λb H hb=>by
  have e:b=@decide q.Right (Classical.propDecidable _):=by
   cases b
   ·exact(@decide_eq_false _ (_) λh=>by have:=hb.2 h;cases this).symm
   ·exact(@decide_eq_true _ (_) (hb.1 rfl)).symm
  rw[e];exact i _ _ λb=>⟨false,C7⟩
 have f:q.Right↔(q.cs=[]/\(q.kd=1\/q.kd=2))\/(q.ds=[]/\q.kd=3):=⟨λ⟨_,_,_,h⟩=>h,λh=>⟨by omega,by omega,k,h⟩⟩
 by_cases d:q.cs=[]
 ·by_cases kk:q.kd=1
  ·simp only[Hu d,gT,dY,F!,gU,BK,c,g,k1,Hu kk,SJ,QA];exact fin true H ⟨λ_=>f.2 (.inl ⟨d,.inl kk⟩),λ_=>rfl⟩
  ·by_cases kl:q.kd=2
   ·simp only[Hu d,gT,dY,F!,gU,BK,c,g,k1,Ir kk,Hu kl,SJ,QA];exact fin true H ⟨λ_=>f.2 (.inl ⟨d,.inr kl⟩),λ_=>rfl⟩
   ·simp only[Hu d,gT,dY,F!,gU,BK,c,g,k1,Ir kk,Ir kl,SJ,QA,w,d1,O];by_cases d0:q.ds=[]
    ·simp only[Hu d0,gT,dY,F!,gU,BK,c,g,k1,SJ,QA];refine fin _ H ⟨λh=>f.2 (.inr ⟨d0,by simpa using h⟩),λh=>?_⟩;rcases f.1 h with⟨_,h|h⟩|⟨_,h⟩
     ·exact absurd h kk
     ·exact absurd h kl
     ·exact Hu h
    ·simp only[Ir d0,gT,dY,F!,gU,BK,c,g,k1,SJ,QA];refine fin false H ⟨λh=>(by cases h),λh=>?_⟩;rcases f.1 h with⟨_,h|h⟩|⟨h,_⟩
     ·exact absurd h kk
     ·exact absurd h kl
     ·exact absurd h d0
 ·simp only[Ir d,gT,dY,F!,gU,BK,c,g,k1,SJ,QA,w,d1,O];by_cases d0:q.ds=[]
  ·simp only[Hu d0,gT,dY,F!,gU,BK,c,g,k1,SJ,QA];refine fin _ H ⟨λh=>f.2 (.inr ⟨d0,by simpa using h⟩),λh=>?_⟩;rcases f.1 h with⟨h,_⟩|⟨_,h⟩
   ·exact absurd h d
   ·exact Hu h
  ·simp only[Ir d0,gT,dY,F!,gU,BK,c,g,k1,SJ,QA];refine fin false H ⟨λh=>(by cases h),λh=>?_⟩;rcases f.1 h with⟨h,_⟩|⟨h,_⟩
   ·exact absurd h d
   ·exact absurd h d0
def A5K{pv:AV}(f:40000<L)(i:C55 H pv q)(d:q.ds.length<1000)(b:q.cs.length<1000){F:K2}:Ap (r! L (n+4)) M0 [pv] H F=F (Bo (@decide q.Right (Classical.propDecidable _))):=by
 obtain⟨dv,cv,rfl,g,hc⟩:=i;obtain⟨s,q1,c,f1⟩:∃e j,SA q.ds e/\Fx true 11 dv e H j:=by
  rcases g with h|h
  ·refine⟨dv,false,h,?_⟩;rcases h with rfl|⟨_,rfl⟩<;>exact λK=>rfl
  ·exact h.fx (D:=10)
 have⟨k,q2,a,f2⟩:=hc.fx (D:=10);exact AO (A9r (n:=n) f c a d b) (Al (L0 (D:=11) (Al (q:=false) C7 (Al f1 (Al f2 AD)))) AD)
end
end
section
variable{s:AN}{F:K2}{PP:Af->Prop}
variable{L n:Nat}
section
variable{H H':Hp}{v dv cv pv:AV}{A:ed}{K:KV}{x0:Af}{x:AV}{r m:Nat}{q:Pk}{l:List AN}
def rG.nn(h:rG H v l)(b:l≠[]):Aq Ac .eql v (AV.v (.slice none 0 0)) F=F (Bo false):=by
 cases l with
 |nil=>exact absurd rfl b
 |cons a l=>
  rcases h with h|h
  ·rcases h with rfl|⟨h,_⟩
   ·exact r_ rfl
   ·cases h
  ·rcases h with⟨_,h⟩|⟨r,q,c,rfl,_⟩
   ·cases h
   ·exact r_ rfl
def rG.src(h:rG H v l){F:Nat->Is->Af}:Tw H v F=F l.length (AF l):=by
 rcases h with h|h
 ·exact h.src
 ·rcases h with⟨rfl,rfl⟩|⟨r,q,a,rfl,h2⟩
  ·rfl
  ·have:Tw H (.sl 1 r 0 l.length) F=IP H r λx=>Kb x λ_ cs=>E9 (Nat.mul l.length 1) (Dn 0 cs) λc=>F l.length c:=rfl;rw[this,Bl h2];show E9 (l.length*1) (Dn 0 (AF l++a)) (λc=>F l.length c)=_;rw[CA,qV,Km _ _ _ (by rw[EN,Be];omega),rT,l32 (by rw[Be];omega),l25 (by rw[Be];omega)]
def rG.ok(h:rG H v l):(YD Ac.d&&Sj 1 v)=true:=by
 rcases h with h|h
 ·exact h.ok
 ·rcases h with⟨rfl,rfl⟩|⟨r,q,a,rfl,h2⟩<;>rfl
def A1j(wf:Wf H)(h:rG H v l)(w:l=[]->v=Aw)(hn:l.length<100000)(i:∀b H',MB H' b l->(∀u,A8 b u->Ar H<=u)->Wf H'->(∀u y,Ah H u=some y->Ah H' u=some y)->Ar H<=Ar H'->PP (K b H')):
 PP ((r! L (n+1)).call AH [v] H K):=by
 rw[FU];unfold DM Ih;by_cases d:l=[]
 ·subst d;obtain rfl:=w rfl;have e:∀{K:K2},Aq Ac .eql Aw (AV.v (.slice none 0 0)) K=K (Bo true):=λ{K}=>r_ rfl;rw[e,Cy];exact i Aw H (.inl ⟨rfl,rfl⟩) (λu a=>absurd a HY) wf (λu y a=>a) (MC _)
 ·rw[h.nn d,AY,B7A];have w1:=AG (x:=.cells false Au []) wf;have j:∀u y,Ah H u=some y->Ah ((Ar H,Row.cells false Au [])::H) u=some y:=λu y a=>A6 (wf.lt a) a;have B:Bp ((Ar H,.cells false Au [])::H) Au 1 (.sl 1 (Ar H) 0 0) 0 []:=.inr ⟨Ar H,false,rfl,Ay (by simp),rfl⟩;have f:=h.keep j;have⟨b,H',k,p,t,c⟩:=apt (ie:=Ai) (i2:=Ac) B (λK=>f.src (F:=K)) (by rw[Be,rT]) (lQ (λ_=>rfl) l) (by decide) rfl f.ok (by show(0+l.length)*16<=_;omega) (by omega);rw[k];have n1:Ar ((Ar H,Row.cells false Au [])::H)=Ar H+1:=rfl;refine i b H' ?_ (λu a=>?_) (c.wf w1) (λu y a=>?_) ?_
  ·rcases p with⟨_,h,_⟩|⟨r,q,rfl,h2,_⟩
   ·exact absurd (gM (by omega)) d
   ·exact .inr ⟨r,q,[],by rw[JZ],by rw[Vq];exact h2⟩
  ·have:=t u a;omega
  ·have:=wf.lt a;exact c.keep w1 u y (j u y a) λ⟨_,_,_,g⟩=>by injection g with _ g;omega
  ·have:=c.nx;omega
def A9M(wf:Wf H)(h:rG H v l)(c:l=[]->v=Aw)(hn:l.length<100000)(d:∀b H',MB H' b l->(∀u,A8 b u->Ar H<=u)->Wf H'->(∀u y,Ah H u=some y->Ah H' u=some y)->Ar H<=Ar H'->K b H'=x0):
 (r! L (n+1)).call AH [v] H K=x0:=
 A1j (PP:=λa=>a=x0) wf h c hn d
structure PkS(H:Hp)(v:AV)(q:Pk):Prop where
 at_:∃dv cv,v=.agg [I q.kd,dv,cv]/\rG H dv q.ds/\Yt H cv q.cs/\(q.ds=[]->dv=Aw)
def PkS.pk(h:PkS H v q):C55 H v q:=by
 have⟨dv,cv,h1,h2,a,_⟩:=h.at_;exact⟨dv,cv,h1,h2,a⟩
def PkS.keep(h:PkS H v q)(k:∀u y,Ah H u=some y->Ah H' u=some y):PkS H' v q:=by
 have⟨dv,cv,h1,h2,a,b⟩:=h.at_;exact⟨dv,cv,h1,h2.keep k,a.keep λu y _ c=>k u y c,b⟩
def A3F(e:sF H x A):Ap (r! L (n+1)) BV [x,S s] H F=F (Bo (decide (s∈A.map Cd.id))):=by
 have⟨q1,c⟩:=e.fx (D:=7);refine AO (λK d=>?_) (Al c (Al (q:=false) C7 AD));rw[UO];unfold K5 LF;rw[A12];refine A4w (b:=gE A) (F:=λf _ a=>K f a) (λK=>r_ rfl) λH' _=>?_;rw[jT];exact d _ _ λb=>⟨false,C7⟩
abbrev C0T(x:AV):AV:=.fn (.func BV) [x] []
def A98{N:Nat}:CH (E (L+20)) (rt (L+20) N) (C0T x) [S s] H K=Ap (rt (L+20) N) BV [x,S s] H λv=>K v H:=by
 show Tq [S s] [] (λa=>Tq [x] a λall=>A2t ((E (L+20)).ne BV) all H K (@Bool.rec (λ_=>Af) (zpm (E (L+20)) BV (rt (L+20) N) all H λv=>K v H) ((rt (L+20) N).call BV all H K) ((E (L+20)).imp BV)))=_;rw[J2,J2,show(E (L+20)).ne BV=false from rfl,show(E (L+20)).imp BV=false from rfl];show zpm (E (L+20)) BV (rt (L+20) N) [x,S s] H (λv=>K v H)=_;rw[A3j (by simp)]
def B5J{D:Nat}(c:sF H x A):∃q,Fx true (D+6) (C0T x) (C0T (.iptr [.imap (Dd DU (gE A))])) H q:=by
 have⟨q1,h1⟩:=c.fx (D:=D);refine⟨q1,λK=>?_⟩;show IG (HU true H (D+5)) [x] (λq b=>IG (HU true H (D+5)) [] λd a=>K (@Bool.rec (λ_=>Bool) d true q) (.fn (.func BV) b a))=_;have h2:RZ true (D+5) [x] [.iptr [.imap (Dd DU (gE A))]] H (q1||false):=Al h1 AD;rw[h2];show K (@Bool.rec (λ_=>Bool) false true (q1||false)) _=_;cases q1<;>rfl
def A1b(O:GOk A)(M:200000<L)(wf:Wf H)(g:StAt H r m A)(R:PkS H pv q)(N:q.ds.length<=40)(X:∀H',Lat H H' (λ_=>False)->PP (K (yC (eQ A (q.ds.filter λs=>decide (s∉A.map Cd.id)))) H')):PP ((r! L (n+83)).call CO [.ptr r 0 0,pv] H K):=by
 obtain⟨dv,cv,rfl,h1,h2,J⟩:=R.at_;rw[SS];unfold JG DN;have Y:([I q.kd,dv,cv]:Is).all AV.one=true:=by
  have a1:=h1.one.2;have a2:=h2.one.2;simp only[qU,l3a,a1,a2];rfl
 rw[DZ Y];have w1:=AG (x:=.cells true A5 [I q.kd,dv,cv]) wf;have i:∀u y,Ah H u=some y->Ah ((Ar H,c_ A5 [I q.kd,dv,cv])::H) u=some y:=λu y a=>A6 (wf.lt a) a;have b1:Ah ((Ar H,c_ A5 [I q.kd,dv,cv])::H) (Ar H)=some (c_ A5 [I q.kd,dv,cv]):=Ay (by simp);rw[fA,JZ,AL (p:=1) rfl b1 (by simp)];refine A1j (n:=n+81) w1 (h1.keep i) J (by omega) λC t r2 f j w n2=>?_;have s2:=g.keep λu y a=>w u y (i u y a);have⟨Z,e⟩:=B5J (D:=6) s2.sv;have n2:Ar H+1<=Ar t:=n2;have d:∀u,A8 C u->Ar H+1<=u:=λu a=>f u a;have b:∀{c},Lat t c (A8 C)->∀u y,Ah H u=some y->Ah c u=some y:=λ{c}k u y a=>k.keep j u y (w u y (i u y a)) λQ=>by have:=d u Q;have:=wf.lt a;omega
 refine A9I (n:=n+80) (P:=λs=>decide (s∈A.map Cd.id)) j r2 (by omega) (by omega) ⟨_,Z,e,λs K=>?_⟩ (λc k3 s K=>?_) λv3 c B V k3=>?_
 ·rw[A98];exact A3F (n:=n+79) (.inl rfl)
 ·rw[A98];exact A3F (n:=n+80) (g.keep (b k3)).sv
 ·have w3:=k3.wf j;have ef:(q.ds.filter λs=>!decide (s∈A.map Cd.id))=q.ds.filter λs=>decide (s∉A.map Cd.id):=by
   congr 1
   funext s
   by_cases h:s∈A.map Cd.id<;>simp[h]
  rw[ef]at B;rw[A9h (n:=n) O M (g.keep (b k3)).sv (.inr B) (fR (l30 _ _) N)];exact X c ⟨λ_=>w3,by have:=k3.nx;omega,λ_ u y a _=>b k3 u y a⟩
def A9B(d:GOk A)(b:200000<L)(wf:Wf H)(f:StAt H r m A)(e:PkS H pv q)(c:q.ds.length<=40)(g:∀H',Lat H H' (λ_=>False)->K (yC (eQ A (q.ds.filter λs=>decide (s∉A.map Cd.id)))) H'=x0):(r! L (n+83)).call CO [.ptr r 0 0,pv] H K=x0:=
 A1b (PP:=λa=>a=x0) d b wf f e c g
end
end
section
variable{L n:Nat}
abbrev PV:=List (Pk×AV×AV)
def pvC(p:Pk×AV×AV):Is:=[I p.1.kd,p.2.1,p.2.2]
structure PvOk(H:Hp)(p:Pk×AV×AV):Prop where
 ds:rG H p.2.1 p.1.ds
 cs:Yt H p.2.2 p.1.cs
 nl:p.1.ds=[]->p.2.1=Aw
def B35(H:Hp)(v:AV)(ps:PV):Prop:=(v=Aw/\ps=[])\/v=.list ps.length (ps.flatMap pvC)\/∃r q a,v=.sl 3 r 0 ps.length/\Ah H r=some (.cells q A5 (ps.flatMap pvC++a))
structure PksAt(H:Hp)(v:AV)(l:List Pk):Prop where
 at_:∃ps:PV,ps.map Prod.fst=l/\(∀p∈ps,PvOk H p)/\B35 H v ps
section
variable{H H':Hp}{v dv cv pv:AV}{A:ed}{K:KV}{x0:Af}{x:AV}{r m:Nat}{q:Pk}{ps:PV}
def C0f(ps:PV):(ps.flatMap pvC).length=ps.length*3:=jV (f:=pvC) (w:=3) (λ_=>rfl) ps
def PksAt.pks{ls:List Pk}:PksAt H (yC ls) ls:=by
 refine⟨ls.map λp=>(p,Di p.ds,match p.cs with|[]=>Aw|c::cs=>.list (c::cs).length ((c::cs).flatMap PC.cells)),by rw[List.map_map];exact List.map_id _,λp b=>?_,?_⟩
 ·obtain⟨a,_,rfl⟩:=Pu.1 b;refine⟨.inl (Lo _),?_,λh=>?_⟩
  ·show Yt H (match a.cs with|[]=>Aw|c::cs=>.list (c::cs).length ((c::cs).flatMap PC.cells)) a.cs;cases a.cs with
   |nil=>exact .inl ⟨rfl,rfl⟩
   |cons c cs=>exact .inr (.inl rfl)
  ·have h:a.ds=[]:=h;show Di a.ds=Aw;rw[h];rfl
 ·cases ls with
  |nil=>exact .inl ⟨rfl,rfl⟩
  |cons p ls=>
   refine .inr (.inl ?_);show AV.list _ _=AV.list _ _;rw[QK,List.flatMap_map];rfl
def B6I{s:AN}:CS (r! L (n+2)) Fp [S s,.iptr [.iptr [.imap (Dd DU (gE A))]]] (Bo (decide (s∉A.map Cd.id))):=by
 intro K c;rw[PA];unfold HJ LF;have a:∀{F:K2},AE BP (.iptr [.iptr [.imap (Dd DU (gE A))]]) [] F=F (.iptr [.imap (Dd DU (gE A))]):=λ{F}=>by kernel_rfl
 rw[a,A3F (n:=n) (.inl rfl),DK];have:(!decide (s∈A.map Cd.id))=decide (s∉A.map Cd.id):=by by_cases h:s∈A.map Cd.id<;>simp[h]
 rw[this];exact c _ _ λb=>⟨false,C7⟩
def A6p{ws:List AN}:gvn A ws=[]↔RU (Eu (ws.filter λx=>decide (x∈A.map Cd.id)))=[]:=by
 constructor
 ·intro h;cases hc:RU (Eu (ws.filter λx=>decide (x∈A.map Cd.id))) with
  |nil=>rfl
  |cons a t=>
   have d:a∈RU (Eu (ws.filter λx=>decide (x∈A.map Cd.id))):=by rw[hc];simp
   rw[A0p,(Bb _).mem_iff,l2z,decide_eq_true_eq]at d;have⟨c,b⟩:=A08 d.2;unfold gvn at h;rw[hc,List.filterMap_cons,b]at h;cases h
 ·intro h;unfold gvn;rw[h];rfl
def A77(hg:GOk A)(hL:200000<L)(wf:Wf H)(hs:StAt H r m A)(N:PkS H pv q)(hd:q.ds.length<=64)(O:∀J H',PksAt H' J (A05 A q.ds)->Lat H H' (λ_=>False)->K J H'=x0):(r! L (n+83)).call D1 [.ptr r 0 0,pv] H K=x0:=by
 obtain⟨dv,cv,rfl,h1,h2,h3⟩:=N.at_;rw[R9];unfold Jp DN A4;rw[A58 ⟨rfl,rfl⟩];have o3:([I q.kd,dv,cv]:Is).all AV.one=true:=by
  have a1:=h1.one.2;have a2:=h2.one.2;simp only[qU,l3a,a1,a2];rfl
 rw[DZ o3];have w0:=AG (x:=.cells true AW [.ptr r 0 0]) wf;have e0:Ar ((Ar H,c_ AW [.ptr r 0 0])::H)=Ar H+1:=rfl;rw[e0];have w1:Wf ((Ar H+1,c_ A5 [I q.kd,dv,cv])::(Ar H,c_ AW [.ptr r 0 0])::H):=AG (x:=.cells true A5 [I q.kd,dv,cv]) w0;have Q:∀u y,Ah H u=some y->Ah ((Ar H+1,c_ A5 [I q.kd,dv,cv])::(Ar H,c_ AW [.ptr r 0 0])::H) u=some y:=λu y a=>by
  have a1:=A6 (x:=.cells true AW [.ptr r 0 0]) (wf.lt a) a;exact A6 (w0.lt a1) a1
 have V:Ah ((Ar H+1,c_ A5 [I q.kd,dv,cv])::(Ar H,c_ AW [.ptr r 0 0])::H) (Ar H)=some (c_ AW [.ptr r 0 0]):=A6 (H:=(Ar H,c_ AW [.ptr r 0 0])::H) (by rw[e0];omega) (Ay (by simp));have b1:Ah ((Ar H+1,c_ A5 [I q.kd,dv,cv])::(Ar H,c_ AW [.ptr r 0 0])::H) (Ar H+1)=some (c_ A5 [I q.kd,dv,cv]):=Ay (H:=(Ar H,c_ AW [.ptr r 0 0])::H) (by simp);have n1:Ar ((Ar H+1,c_ A5 [I q.kd,dv,cv])::(Ar H,c_ AW [.ptr r 0 0])::H)=Ar H+2:=rfl;generalize ((Ar H+1,c_ A5 [I q.kd,dv,cv])::(Ar H,c_ AW [.ptr r 0 0])::H:Hp)=M at w1 Q V b1 n1;rw[fA,Nat.add_comm 0 1,AL (p:=1) rfl b1 (by simp)];refine A9M (n:=n+81) w1 (h1.keep Q) h3 (by omega) λJ H2 r2 aa w2 k2 n2=>?_;have g:∀u,A8 J u->Ar H+2<=u:=λu a=>by have:=aa u a;omega
 have B:∀{d},Lat H2 d (A8 J)->∀u y,Ah M u=some y->Ah d u=some y:=λ{d}k u y a=>k.keep w2 u y (k2 u y a) λw=>by have:=g u w;have:=w1.lt a;omega
 have fxc:∀(D:Nat){d},(∀u y,Ah M u=some y->Ah d u=some y)->Fx true (D+6) (.ptr (Ar H) 0 0) (.iptr [.iptr [.imap (Dd DU (gE A))]]) d true:=λD{d}k=>by
  have⟨qx,O⟩:=(hs.keep λu y a=>k u y (Q u y a)).sv.fx (D:=D);exact XG (D:=D+5) (k _ _ V) (Al O AD)
 refine A9K (n:=n+80) (P:=λs=>decide (s∉A.map Cd.id)) w2 r2 (by omega) (by omega) ⟨.fn (.func Fp) [] [.iptr [.iptr [.imap (Dd DU (gE A))]]],_,F? (D:=11) (Al (fxc 5 k2) AD),λs K=>?_⟩ (λd k3 s K=>?_) λv3 d r3 ab k3=>?_
 ·rw[O_ rfl rfl];exact AO (B6I (n:=n+78)) (Al (q:=false) C7 (Al (q:=false) RA AD))
 ·rw[O_ rfl rfl];exact AO (B6I (n:=n+79)) (Al (q:=false) C7 (Al (fxc 6 (B k3)) AD))
 ·have w3:=k3.wf w2;have ef:(q.ds.filter λs=>!decide (s∉A.map Cd.id))=q.ds.filter λs=>decide (s∈A.map Cd.id):=by
   congr 1
   funext s
   by_cases h:s∈A.map Cd.id<;>simp[h]
  rw[ef]at r3;have Z:(q.ds.filter λs=>decide (s∈A.map Cd.id)).length<=64:=fR (l30 _ _) hd;have ae:=B k3;refine A5J (n:=n+78) r3 (by omega) λH4 r4 k4=>?_;have w4:=k4.wf w3;have b:∀u,A8 v3 u->Ar H+2<=u:=λu a=>g u (ab u a);have af:∀u y,Ah M u=some y->Ah H4 u=some y:=λu y a=>k4.keep w3 u y (ae u y a) λw=>by have:=b u w;have:=w1.lt a;omega
  refine B6N (n:=n+81) w4 r4 (by rw[(Bb _).length_eq];omega) (by omega) λv5 j r5 ah _ k5=>?_;have w5:=k5.wf w4;have C:∀u y,Ah M u=some y->Ah j u=some y:=λu y a=>k5.keep w4 u y (af u y a) λw=>by have:=b u w;have:=w1.lt a;omega
  have i:∀u y,Ah H u=some y->Ah j u=some y:=λu y a=>C u y (Q u y a);have ad:Ar H<=Ar j:=by have:=k3.nx;have:=k4.nx;have:=k5.nx;omega
  rw[r5.len,CV];by_cases hz:gvn A q.ds=[]
  ·have f:=A6p.1 hz;rw[Hu (by rw[f];rfl),Cy];refine O Aw j ?_ ⟨λ_=>w5,ad,λ_ u y a _=>i u y a⟩;unfold A05;rw[Dv hz];exact PksAt.pks (ls:=[])
  ·have f:RU (Eu (q.ds.filter λx=>decide (x∈A.map Cd.id)))≠[]:=λh=>hz (A6p.2 h);have ag:=List.length_pos_iff.2 f;rw[Ir (λh=>f (gM (by simpa using h))),AY];have lx:∀{F:K2},AE BP (.ptr (Ar H) 0 0) j F=F (.ptr r 0 0):=λ{F}=>AL (p:=0) rfl (C _ _ V) (by simp);rw[lx];have t:=A6H (Eu (q.ds.filter λx=>decide (x∈A.map Cd.id)));rw[(Bb _).length_eq]at t;refine A9H (n:=n+76) (A:=A) hg (λy hy=>?_) (Nat.lt_of_le_of_lt (fR t Z) (by decide)) (by omega) w5 (hs.keep i).sv (.inr r5) λR H6 e=>?_
   ·rw[A0p,(Bb _).mem_iff,l2z,decide_eq_true_eq]at hy;exact hy.2
   ·have eg:VF A (RU (Eu (q.ds.filter λx=>decide (x∈A.map Cd.id))))=gvn A q.ds:=rfl;rw[eg]at e;have Y:=e.sl.co;have X:∀{F:K2},Cb AI [(0,1,(AV.v (.int .i64 3))),(2,1,R)] F=F (.agg [I 3,Aw,R]):=λ{F}=>by
     rcases e.sl with⟨h,_⟩|⟨rr,qq,h,_⟩<;>(rw[h];kernel_rfl)
    rw[X,B2u ⟨rfl,rfl⟩ Y];refine O _ _ ?_ ⟨λ_=>AG e.wf,by show Ar H<=Ar H6+1;have:=e.nx;omega,λ_ u y a _=>?_⟩
    ·unfold A05;rw[CL hz];have ac:=e.wf;refine⟨[(⟨3,[],(gvn A q.ds).map .c⟩,Aw,R)],rfl,λp N=>?_,.inr (.inr ⟨Ar H6,false,[],rfl,Ay (by simp)⟩)⟩;rw[XY]at N;subst N;refine⟨.inl (.inr ⟨rfl,rfl⟩),?_,λ_=>rfl⟩;show Yt _ R ((gvn A q.ds).map .c);rcases e.sl with⟨rfl,h1,h2⟩|⟨rr,qq,rfl,h2,_⟩
     ·exact absurd (gM h1) hz
     ·refine .inr (.inr ⟨rr,qq,[],by rw[QK],?_⟩);rw[Vq,V_];exact A6 (ac.lt h2) h2
    ·have:=e.keep u y (i u y a);exact A6 (e.wf.lt this) this
end
end
section
variable{d:Cd}
variable{L n:Nat}
section
variable{H H0 H':Hp}{v dv cv pv:AV}{A:ed}{K:KV}{x0:Af}{x:AV}{r m:Nat}{q:Pk}{l:List PC}{p:PC}
def A38(h:d.id∈A.map Cd.id):TE A (.c d)=(A,false,0):=Dv h
def xD(h:d.id∉A.map Cd.id):TE A (.c d)=(A++[d],true,0):=CL h
def N?:XT A (p::l)=XT (TE A p).1 l:=by
 cases p with
 |z=>rfl
 |c d=>
  show XT (if d.id∈A.map Cd.id then A else A++[d]) l=_;by_cases h:d.id∈A.map Cd.id
  ·rw[Dv h,A38 h]
  ·rw[CL h,xD h]
def A39:(TE A p).1.length=A.length+if(TE A p).2.1 then 1 else 0:=by
 cases p with
 |z=>rfl
 |c d=>
  by_cases h:d.id∈A.map Cd.id
  ·rw[A38 h];rfl
  ·rw[xD h];simp
def B6y:A.length<=(XT A l).length:=by
 induction l generalizing A with
 |nil=>exact MC _
 |cons p l ih=>
  rw[N?];have:=ih (A:=(TE A p).1);have e:=A39 (A:=A) (p:=p);omega
def bxC{F:KV}(g:∀H',Lat H H' (λ_=>False)->F (.agg p.cells) H'=x0):
 (Bx Ab Ae H λb c=>DE Ae b (.agg p.cells) c λa=>AE Ae b a λe=>F e a)=x0:=by
 rw[Bv (cs:=BI) rfl,BO (cs:=BI) (vs:=p.cells) (Ay (by simp)) p.len rfl p.one,Bu rfl p.len.symm (BC (Ay (by simp)))];refine g _ ⟨λw=>Bm (AG w),by rw[B9];show Ar H<=Ar H+1;omega,λw u y f _=>?_⟩;have:=w.lt f;rw[Ag (by omega)];exact A6 this f
def C4N(hc:Yt H cv l)(c:StAt H r m A){u:Nat}(a:A8 cv u):u≠m:=by
 rcases hc with⟨rfl,_⟩|rfl|⟨g,f,i,rfl,h⟩
 ·exact absurd a (by simp[A8])
 ·exact absurd a (by simp[A8])
 ·intro e;have⟨_,_,_,b⟩:=a;cases b
  subst e;have:=c.mm;rw[h]at this;cases this
def A2i{B:ed}{k:AV->KV}(Q:40000<L)(hq:∀p∈l,p.Ok)(C:l.length<1000)(X:B.length<60)(e:Wf H0)(j:StAt H0 r m A)(c:Yt H0 cv l)(V:∀H',StAt H' r m B->Lat H0 H' (λu=>u=m)->k (.ptr r 0 0) (Bo (decide (B.length≠A.length))) H'=x0):
 ∀(fuel i:Nat)(a:ed)(H:Hp),l.length<fuel+i->i<=l.length->XT a (l.drop i)=B->A.length<=a.length->StAt H r m a->Lat H0 H (λu=>u=m)->
  Jl (L+20) (r! L (n+65)) K k fuel (.ptr r 0 0) (Bo (decide (a.length≠A.length))) cv (I l.length) (I i) H=x0
 |0,i,a,H,h1,h2,_,_,_,_=>by omega
 |fuel+1,i,a,H,h1,h2,b,h4,R,s=>by
  rw[R4];unfold Jm Ia Fg A4 Ks;by_cases hi:i<l.length
  ·have hc:Yt H cv l:=c.keep λu y ru D=>s.keep e u y D (C4N c j ru);rw[XA2 (by omega),Cy,hc.get hi];refine bxC λH1 J=>?_;have w:=s.wf e;have s1:=R.keep λu y D=>J.keep w u y D id;have Y:l.drop i=l[i]::l.drop (i+1):=rV hi;rw[Y,N?]at b;have Z:(TE a l[i]).1.length<=B.length:=by rw[<-b];exact B6y
   have O:=A39 (A:=a) (p:=l[i]);refine B89 (n:=n) Q (hq _ (Ql hi)) (J.wf w) s1 (by omega) λf s2 l2=>?_;rw[Fm,Pq];have ef:∀{F:KV},(Ei (gdV false (Bo (decide (a.length≠A.length))) λg=>@Bool.rec (λ_=>Af) (some (AV.v undef,f)) (some (Bo (TE a l[i]).2.1,f)) g) λM t=>Cj (Bo (decide (a.length≠A.length))) (AV.v (.bool true)) M λN=>F N t)=F (Bo (decide ((TE a l[i]).1.length≠A.length))) f:=λ{F}=>by
    by_cases P:a.length=A.length
    ·rw[Ir (by simpa using P),gT];show Ei (some (Bo (TE a l[i]).2.1,f)) _=_;rw[BK,QA]
     congr 2
     cases hb:(TE a l[i]).2.1<;>rw[hb]at O<;>simp at O
     ·exact(Ir (by simp;omega)).symm
     ·exact(Hu (by omega)).symm
    ·rw[Hu P,F!];show Ei (some (AV.v undef,f)) _=_;rw[BK,SJ];rw[Hu (p:=(TE a l[i]).1.length≠A.length) (by omega)]
   rw[ef,CW (by omega)];exact A2i Q hq C X e j c V fuel (i+1) _ f (by omega) (by omega) b (by omega) s2 (s.trans (J.trans l2 (λ_ _ h=>h.elim) (λ_ _ h=>h)) (λ_ _ h=>h) (λ_ _ h=>h))
  ·rw[Fk (by omega),AY];rw[List.drop_of_length_le (by omega)]at b;have b:a=B:=b;subst b;exact V H R s
def A9F(D:200000<L)(F:GOk (XT A q.cs))(hq:∀p∈q.cs,p.Ok)(wf:Wf H)(k:StAt H r m A)(J:PkS H pv q)(f:q.cs.length<1000)(C:(XT A q.cs).length<60)(c:∀t H',StAt H' r m (XT A q.cs)->PksAt H' t (if(XT A q.cs).length=A.length then[] else eQ (XT A q.cs) [])->Lat H H' (λu=>u=m)->K t H'=x0):(r! L (n+83)).call DI [.ptr r 0 0,pv] H K=x0:=by
 obtain⟨dv,cv,rfl,h1,h2,O⟩:=J.at_;rw[XA7];unfold JH DN A4 FW;have N:([I q.kd,dv,cv]:Is).all AV.one=true:=by
  have a1:=h1.one.2;have a2:=h2.one.2;simp only[qU,l3a,a1,a2];rfl
 rw[DZ N];have w1:=AG (x:=.cells true A5 [I q.kd,dv,cv]) wf;have e:∀u y,Ah H u=some y->Ah ((Ar H,c_ A5 [I q.kd,dv,cv])::H) u=some y:=λu y b=>A6 (wf.lt b) b;have b1:Ah ((Ar H,c_ A5 [I q.kd,dv,cv])::H) (Ar H)=some (c_ A5 [I q.kd,dv,cv]):=Ay (by simp);have s:Lat H ((Ar H,c_ A5 [I q.kd,dv,cv])::H) (λu=>u=m):=Lat.cons _ _ _;generalize ((Ar H,c_ A5 [I q.kd,dv,cv])::H:Hp)=i at w1 e b1 s;simp only[BF];have c1:=h2.keep (H':=i) λu y _ b=>e u y b;rw[fA,JZ,AL (p:=2) rfl b1 (by simp)];show Ba Am cv _=_;have w:(AV.v (.bool false))=Bo (decide (A.length≠A.length)):=by simp
 rw[c1.len,w,show(AV.v (.int .i64 0))=I ((0:Nat):Int) from rfl];refine A2i (n:=n+17) (B:=XT A q.cs) (l:=q.cs) (by omega) hq f C w1 (k.keep e) c1 (λj g M=>?_) (L+20) 0 A i (by omega) (by omega) rfl (MC _) (k.keep e) (Lat.refl _ _);have a:=s.trans M (R:=λu=>u=m) (λ_ _ h=>h) (λ_ _ h=>h);rw[DK];by_cases he:(XT A q.cs).length=A.length
 ·rw[Ir (by simpa using he)];show A2 (Bo true) _ _=_;rw[Cy];rw[Dv he]at c;exact c Aw j g (PksAt.pks (ls:=[])) a
 ·rw[Hu he];show A2 (Bo false) _ _=_;rw[AY];rw[CL he]at c;rw[A9h (n:=n) (ex:=[]) (lv:=.v (.slice none 0 0)) F D g.sv (.inl (.inr ⟨rfl,rfl⟩)) (by simp)];exact c _ j g PksAt.pks a
end
end
section
variable{PP:Af->Prop}{F:Option (Nat×AV)->Af}
variable{L n:Nat}
section
variable{H H':Hp}{v pv:AV}{A:ed}{K:KV}{x0:Af}{x:AV}{r m:Nat}{q:Pk}{p:PC}
def mu1{k:Value}{es:IH}{K:Ru}(h:Ah H r=some (.map false es none))(b:∀F:Option (Nat×AV)->Af,I9 k es F=F none):Mg (.mp r) k v H K=K (upd H r (.map false (es++[(k,v)]) none)):=by
 have e:Mg (.mp r) k v H K=IP H r λy=>nI y λes a=>I9 k es λq=>match q with
  |none=>LJ H r (.map false (es++[(k,v)]) (wV a)) K
  |some (i,_)=>LJ H r (.map false (es.set i (k,v)) a) K:=rfl
 rw[e,Bl h];show I9 k es _=_;rw[b];show LJ H r _ K=_;rw[Dh];rfl
abbrev fnR(f:Nat):AV:=.fn (.func f) [] []
abbrev A3S:IH:=[(.int .i64 1,fnR CO),(.int .i64 2,fnR D1),(.int .i64 3,fnR DI)]
def C2O{F:KV}(wf:Wf H)(k:∀H' t,Ah H' t=some (.map false A3S none)->Lat H H' (λ_=>False)->PP (F (.mp t) H')):
 PP (Ld Aa H λa b=>
  XB .i64 (AV.v (.int .i64 1)) λg=>Mg a g (AV.fn (.func CO) [] []) b λc=>
  XB .i64 (AV.v (.int .i64 2)) λh=>Mg a h (AV.fn (.func D1) [] []) c λe=>
  XB .i64 (AV.v (.int .i64 3)) λi=>Mg a i (AV.fn (.func DI) [] []) e λf=>F a f):=by
 have em:∀(H:Hp)(K:KV),Ld Aa H K=K (.mp (Ar H)) ((Ar H,.map false [] none)::H):=λH K=>by
  show HE H (λs=>K (.mp s) ((s,.map false [] (fL Aa.d))::H))=_;rw[BS];rfl
 have kk:∀{z:Int}{F:Value->Af},XB .i64 (AV.v (.int .i64 z)) F=F (.int .i64 z):=λ{z F}=>r_ rfl;rw[em,kk,mu1 (Ay (by simp)) (λF=>rfl),kk,mu1 (BC (Ay (by simp))) (λF=>rfl),kk,mu1 (BC (BC (Ay (by simp)))) (λF=>rfl)];refine k _ _ (BC (BC (BC (Ay (by simp))))) ⟨λw=>Bm (Bm (Bm (AG w))),by simp only[B9];show Ar H<=Ar H+1;omega,λw u y j _=>?_⟩;have:=w.lt j;rw[Ag (by omega),Ag (by omega),Ag (by omega)];exact A6 this j
def C3y{t:Nat}{k:Int}{F:K2}(h:Ah H t=some (.map false A3S none)):(XB .i64 (I k) λa=>Ye Aa false (.mp t) a H F)=I9 (.int .i64 k) A3S λf=>match f with|none=>F Aa.zero|some (_,v)=>F v:=by
 show Ye Aa false (.mp t) (.int .i64 k) H F=_;show IP H t _=_;rw[Bl h];show I9 _ A3S _=_
 congr 1
 funext f
 cases f with
 |none=>rfl
 |some p=>have⟨_,_⟩:=p;rfl
def C3N:I9 (.int .i64 1) A3S F=F (some (0,fnR CO)):=by kernel_rfl
def C5U:I9 (.int .i64 2) A3S F=F (some (1,fnR D1)):=by kernel_rfl
def C5T:I9 (.int .i64 3) A3S F=F (some (2,fnR DI)):=by kernel_rfl
def B3t{f:Nat}{ws:Is}{N:Nat}(h1:(E (L+20)).imp f=true)(h2:(E (L+20)).ne f=false):CH (E (L+20)) (rt (L+20) N) (fnR f) ws H K=(rt (L+20) N).call f ws H K:=by
 show Tq ws [] (λa=>Tq [] a λall=>A2t ((E (L+20)).ne f) all H K (@Bool.rec (λ_=>Af) (zpm (E (L+20)) f (rt (L+20) N) all H λv=>K v H) ((rt (L+20) N).call f all H K) ((E (L+20)).imp f)))=_;rw[J2,J2,h1,h2];show(rt (L+20) N).call f (ws++[]) H K=_;rw[Vq]
def ZH(M:200000<L)(hg:GOk A)(hq:∀p∈q.cs,p.Ok)(wf:Wf H)(hs:StAt H r m A)(hp:PkS H pv q)(N:q.ds.length<1000)(hd:q.kd=1->q.ds.length<=40)(B:q.cs.length<1000)(b:GOk (NQ A q).1)(k:(NQ A q).1.length<60)(e:∀v' H',StAt H' r m (NQ A q).1->PksAt H' v' (NQ A q).2->Lat H H' (λu=>u=m)->K v' H'=x0):(r! L (n+84)).call Cn [.ptr r 0 0,pv] H K=x0:=by
 obtain⟨d,cv,rfl,h1,h2,J⟩:=id hp.at_;rw[La];unfold Gk DN Fg A4 Ks;have o3:([I q.kd,d,cv]:Is).all AV.one=true:=by
  have a1:=h1.one.2;have a2:=h2.one.2;simp only[qU,l3a,a1,a2];rfl
 rw[DZ o3];have w1:=AG (x:=.cells true A5 [I q.kd,d,cv]) wf;have Y:∀u y,Ah H u=some y->Ah ((Ar H,c_ A5 [I q.kd,d,cv])::H) u=some y:=λu y f=>A6 (wf.lt f) f;have b1:Ah ((Ar H,c_ A5 [I q.kd,d,cv])::H) (Ar H)=some (c_ A5 [I q.kd,d,cv]):=Ay (by simp);have V:Lat H ((Ar H,c_ A5 [I q.kd,d,cv])::H) (λu=>u=m):=Lat.cons _ _ _;generalize P:Ar H=r1 at b1;have:((r1,c_ A5 [I q.kd,d,cv])::H:Hp)=(Ar H,c_ A5 [I q.kd,d,cv])::H:=by rw[P]
 rw[this]at b1⊢;clear this;generalize ((Ar H,c_ A5 [I q.kd,d,cv])::H:Hp)=H1 at w1 Y b1 V;have Z:=hs.keep Y;have p1:=hp.keep Y;have ld:∀{j:Hp}{F:K2},Ah j r1=some (c_ A5 [I q.kd,d,cv])->AE AI (.ptr r1 0 0) j F=F (.agg [I q.kd,d,cv]):=λ{j F}h=>Bu rfl rfl h;rw[Z.sv.nn];simp only[gT,ld b1,BK];rw[A5K (n:=n+79) (by omega) p1.pk N B];simp only[BK,DK,QA];by_cases s:q.Right
 ·rw[@decide_eq_true _ (_) s];show A2 (Bo false) _ _=_;rw[AY];refine C2O (PP:=λa=>a=x0) w1 λj t ht X=>?_;have Q:∀u y,Ah H1 u=some y->Ah j u=some y:=λu y f=>X.keep w1 u y f id;have b2:=Q _ _ b1;have C:=Z.keep Q;have p2:=p1.keep Q;have D:=X.wf w1;have g:=V.trans X (R:=λu=>u=m) (λ_ _ h=>h) (λ_ _ h=>h.elim);rw[fA,JZ];have lk:∀{F:K2},AE Ad (.ptr r1 0 0) j F=F (I q.kd):=λ{F}=>AL (p:=0) rfl b2 (by simp);rw[lk,C3y ht];simp only[ld b2];have c:q.kd=1\/q.kd=2\/q.kd=3:=by
   have⟨_,_,_,h⟩:=s;rcases h with⟨_,h|h⟩|⟨_,h⟩
   ·exact .inl h
   ·exact .inr (.inl h)
   ·exact .inr (.inr h)
  unfold NQ at e b k;rw[@if_pos _ (_) s]at e b k;rcases c with c|c|c
  ·rw[Dv c]at e b k;rw[c,C3N,<-c];show CH (E (L+20)) (r! L (n+83)) (fnR CO) _ _ _=_;rw[B3t rfl rfl];refine A9B (n:=n) hg M D C p2 (hd c) λw i=>?_;exact e _ w (C.keep λu y f=>i.keep D u y f id) PksAt.pks (g.trans i (λ_ _ h=>h) (λ_ _ h=>h.elim))
  ·have hn:¬q.kd=1:=by omega
   rw[CL hn,Dv c]at e b k;rw[c,C5U,<-c];show CH (E (L+20)) (r! L (n+83)) (fnR D1) _ _ _=_;rw[B3t rfl rfl];refine A77 (n:=n) hg M D C p2 s.1 λv3 w J i=>?_;exact e _ w (C.keep λu y f=>i.keep D u y f id) J (g.trans i (λ_ _ h=>h) (λ_ _ h=>h.elim))
  ·have hn:¬q.kd=1:=by omega
   have O:¬q.kd=2:=by omega
   rw[CL hn,CL O]at e b k;rw[c,C5T,<-c];show CH (E (L+20)) (r! L (n+83)) (fnR DI) _ _ _=_;rw[B3t rfl rfl];refine A9F (n:=n) M b hq D C p2 B k λv3 w s3 J i=>?_;exact e _ w s3 J (g.trans i (λ_ _ h=>h) (λ_ _ h=>h))
 ·rw[@decide_eq_false _ (_) s];show A2 (Bo true) _ _=_;rw[Cy];unfold NQ at e;rw[@if_neg _ (_) s]at e;exact e _ H1 Z (PksAt.pks (ls:=[])) V
def A5L(Q:200000<L)(X:GOk A)(d:q.Right)(e:q.kd=1)(wf:Wf H)(Y:StAt H r m A)(w:PkS H pv q)(V:q.ds.length<=40)(g:∀H',StAt H' r m A->Lat H H' (λu=>u=m)->PP (K (yC (NQ A q).2) H')):PP ((r! L (n+84)).call Cn [.ptr r 0 0,pv] H K):=by
 obtain⟨a,cv,rfl,h1,h2,h3⟩:=id w.at_;rw[La];unfold Gk DN Fg A4 Ks;have o3:([I q.kd,a,cv]:Is).all AV.one=true:=by
  have a1:=h1.one.2;have a2:=h2.one.2;simp only[qU,l3a,a1,a2];rfl
 rw[DZ o3];have w1:=AG (x:=.cells true A5 [I q.kd,a,cv]) wf;have s:∀u y,Ah H u=some y->Ah ((Ar H,c_ A5 [I q.kd,a,cv])::H) u=some y:=λu y c=>A6 (wf.lt c) c;have b1:Ah ((Ar H,c_ A5 [I q.kd,a,cv])::H) (Ar H)=some (c_ A5 [I q.kd,a,cv]):=Ay (by simp);have B:Lat H ((Ar H,c_ A5 [I q.kd,a,cv])::H) (λu=>u=m):=Lat.cons _ _ _;generalize f:Ar H=r1 at b1;have:((r1,c_ A5 [I q.kd,a,cv])::H:Hp)=(Ar H,c_ A5 [I q.kd,a,cv])::H:=by rw[f]
 rw[this]at b1⊢;clear this;generalize ((Ar H,c_ A5 [I q.kd,a,cv])::H:Hp)=O at w1 s b1 B;have J:=Y.keep s;have p1:=w.keep s;have D:∀{b:Hp}{F:K2},Ah b r1=some (c_ A5 [I q.kd,a,cv])->AE AI (.ptr r1 0 0) b F=F (.agg [I q.kd,a,cv]):=λ{b F}h=>Bu rfl rfl h;rw[J.sv.nn];simp only[gT,D b1,BK];rw[A5K (n:=n+79) (by omega) p1.pk (by omega) (by have:=d.2.1;omega)];simp only[BK,DK,QA];rw[@decide_eq_true _ (_) d];show PP (A2 (Bo false) _ _);rw[AY];refine C2O w1 λb t Z k=>?_;have i:∀u y,Ah O u=some y->Ah b u=some y:=λu y c=>k.keep w1 u y c id;have b2:=i _ _ b1;have M:=J.keep i;have p2:=p1.keep i;have N:=k.wf w1;have j:=B.trans k (R:=λu=>u=m) (λ_ _ h=>h) (λ_ _ h=>h.elim);rw[fA,JZ];have lk:∀{F:K2},AE Ad (.ptr r1 0 0) b F=F (I q.kd):=λ{F}=>AL (p:=0) rfl b2 (by simp);rw[lk,C3y Z];simp only[D b2];unfold NQ at g;rw[@if_pos _ (_) d,Dv e]at g;rw[e,C3N,<-e];show PP (CH (E (L+20)) (r! L (n+83)) (fnR CO) _ _ _);rw[B3t rfl rfl];refine A1b (n:=n) X Q N M p2 V λP C=>?_;exact g P (M.keep λu y c=>C.keep N u y c id) (j.trans C (λ_ _ h=>h) (λ_ _ h=>h.elim))
end
end
section
variable{w:AV}{H0:Hp}
variable{L n:Nat}
section
variable{gs A:ed}{H:Hp}{K:KV}{x:AV}
abbrev jI(gs:ed):AV:=.fn (.func Ds) [] [.iptr [gV gs]]
def B1w{r0 s e0 it:Nat}{q0:Bool}{c6 w:AV}{r:Ru}{ks:List AN}(M:Vo 6 w w=true)(q:ks.length<1000000)(i:∀l v H,l.Perm ks->(l=[]->v=Aw)->Coll H0 r0 s q0 e0 c6 l v H->r H=some (w,[]))(c:it≠r0/\it≠s/\Ar H0<=it):
 ∀(f:Nat)(es:List (AN×Cd))(l:List AN)(v:AV)(H:Hp)(o:Option (Value×AV)),es.length<f->(l++es.map Prod.fst).Perm ks->(l=[]->v=Aw)->Coll H0 r0 s q0 e0 c6 l v H->¬A8 v it->Ah H it=some (.iter (Dd DU es) o)->
 B6 (L+20) (r! L (n+1)) K r f (.yl s) (.it it) H=some (w,[]):=by
 intro f
 induction f with
 |zero=>intro es l v H o h;omega
 |succ f ih=>
  intro es l v H o D m C hc hv p;rw[Fq];unfold Cq;refine YU (f:=DU) M p (λe=>?_) (λa e b he=>?_)
  ·subst e;rw[Fm,AY];exact i l v H (by simpa using m) C hc
  ·subst he;have g:=hc.it (.iter (Dd DU (a++b)) (some (.string ⟨⟨e.1⟩⟩,DU e.2))) c hv;have d:=LY (es:=Dd DU (a++b)) (o:=some (.string ⟨⟨e.1⟩⟩,DU e.2)) p;have k:(l++(a++e::b).map Prod.fst).length=ks.length:=m.length_eq;simp at k;have u:uJ (.string ⟨⟨e.1⟩⟩)=S e.1:=rfl;rw[Fm,Cy,NW d,Fm,u];refine U! g (by omega) λN t j F hr=>?_;rw[DK];show A2 (.v (.bool false)) _ _=_;rw[AY];refine ih (a++b) (l++[e.1]) N t _ (by simp at D⊢;omega) ?_ (by simp) j (λJ=>?_) (F it _ c.1 c.2.1 hv d)
   ·refine List.Perm.trans ?_ m;simp only[dW,X0,eI];refine List.Perm.append_left l ?_;show(e.1::(a.map Prod.fst++b.map Prod.fst)).Perm _;exact List.perm_middle.symm
   ·have y:=hr it J;have B:=g.wf.lt d;rw[B9]at y B;omega
def A3H(C:Vo 6 w w=true)(M:gs.length<=100)(J:100<L)(wf:Wf H0)(D:∀l v H,l.Perm (gs.map Cd.id)->(l=[]->v=Aw)->NewSl H0 l v H->K v H=some (w,[])):
 (r! L (n+4)).call EK [jI gs] H0 K=some (w,[]):=by
 rw[GG];unfold EJ;rw[DJ];unfold CD;simp only[BF];rw[oG (by rfl),Wt,F1];unfold Ct;simp only[BF];have w1:=AG (x:=.cells true A7 [Aw]) wf;have c:=Ay (H:=H0) (x:=.cells true A7 [Aw]) (by simp);have t:Ar ((Ar H0,c_ A7 [Aw])::H0)=Ar H0+1:=rfl;have i:Wf ((Ar H0+1,Oi (.ptr (Ar H0) 0 0) (jI gs) (some none))::(Ar H0,c_ A7 [Aw])::H0):=AG (x:=Oi (.ptr (Ar H0) 0 0) (jI gs) (some none)) w1;have e:Ah ((Ar H0+1,Oi (.ptr (Ar H0) 0 0) (jI gs) (some none))::(Ar H0,c_ A7 [Aw])::H0) (Ar H0+1)=some (Oi (.ptr (Ar H0) 0 0) (jI gs) (some none)):=Ay (H:=((Ar H0,c_ A7 [Aw])::H0)) (x:=Oi (.ptr (Ar H0) 0 0) (jI gs) (some none)) (by simp[Oi]);have ol:∀u y,Ah H0 u=some y->Ah ((Ar H0+1,Oi (.ptr (Ar H0) 0 0) (jI gs) (some none))::(Ar H0,c_ A7 [Aw])::H0) u=some y:=λu y a=>by
  have a1:=A6 (x:=.cells true A7 [Aw]) (wf.lt a) a;exact A6 (w1.lt a1) a1
 have k:∀{H:Hp}{K:K2},AE Aj (.iptr [gV gs]) H K=K (gV gs):=λ{H K}=>NI rfl;rw[k,XO];have d:Ah ((Ar H0+1,Oi (.ptr (Ar H0) 0 0) (jI gs) (some none))::(Ar H0,c_ A7 [Aw])::H0) (Ar H0)=some (c_ A7 [Aw]):=A6 (w1.lt c) c;show B6 (L+20) (r! L (n+1)) _ _ (L+20) (.yl (Ar H0+1)) (.it (Ar ((Ar H0+1,Oi (.ptr (Ar H0) 0 0) (jI gs) (some none))::(Ar H0,c_ A7 [Aw])::H0))) ((Ar ((Ar H0+1,Oi (.ptr (Ar H0) 0 0) (jI gs) (some none))::(Ar H0,c_ A7 [Aw])::H0),.iter (Dd DU (gE gs)) none)::((Ar H0+1,Oi (.ptr (Ar H0) 0 0) (jI gs) (some none))::(Ar H0,c_ A7 [Aw])::H0))=_;generalize f:((Ar H0+1,Oi (.ptr (Ar H0) 0 0) (jI gs) (some none))::(Ar H0,c_ A7 [Aw])::H0:Hp)=b at i e ol d;have r:Ar b=Ar H0+2:=by rw[<-f];rfl
 have F:=AG (x:=.iter (Dd DU (gE gs)) none) i;have up:∀u y,Ah b u=some y->Ah ((Ar b,Row.iter (Dd DU (gE gs)) none)::b) u=some y:=λu y j=>A6 (i.lt j) j;have g:Ah ((Ar b,Row.iter (Dd DU (gE gs)) none)::b) (Ar b)=some (.iter (Dd DU (gE gs)) none):=Ay (by simp);have q:(gE gs).length=gs.length:=by simp[gE]
 refine B1w (n:=n) (H0:=H0) (r0:=Ar H0) (s:=Ar H0+1) (it:=Ar b) (q0:=true) (e0:=A7) (c6:=jI gs) (ks:=gs.map Cd.id) C (by rw[QK];omega) ?_ (by omega) (L+20) (gE gs) [] Aw _ none (by omega) (by rw[l3b,XD]) (λ_=>rfl)
  ⟨up _ _ d,.inl ⟨rfl,rfl,rfl⟩,up _ _ e,λu ⟨_,_,_,h⟩=>(by cases h),F,λu y a=>up u y (ol u y a),by omega,by omega,by omega,wf⟩ (λ⟨_,_,_,h⟩=>(by cases h)) g
 intro l v H B m hc;show IP H (Ar H0+1) _=_;rw[Bl hc.lp];show LJ H (Ar H0+1) .gone _=_;rw[Dh];have hr:Ah (upd H (Ar H0+1) .gone) (Ar H0)=some (c_ A7 [v]):=by rw[Ag (by omega)];exact hc.at_
 show AE Ac (.ptr (Ar H0) 0 0) (upd H (Ar H0+1) .gone) _=_;rw[AL (p:=0) rfl hr (by simp)];refine D _ _ _ B m ⟨?_,λu a=>(hc.new u a).2.2,Bm hc.wf,λu y a=>?_,?_⟩
 ·exact hc.sl.lat hc.wf (Lat.upd H _ _ (P:=λu=>u=Ar H0+1) rfl) (λu a=>(hc.new u a).2.1)
 ·have:=wf.lt a;rw[Ag (by omega)];exact hc.keep u y a
 ·rw[B9];have:=hc.wf.lt hc.at_;omega
def B3P{K:K2}:Ap (r! L (n+5)) C8 [gV gs] H0 K=K (jI gs):=by
 refine Iw (λK a=>?_) (Al (q:=false) jS AD);rw[show n+5=(n+4)+1 from rfl,FX];unfold C6 Ih;rw[wJ];exact a _ _ ⟨true,λK=>by kernel_rfl⟩
def wZ(d:GOk A):(L3 A).Perm (Hd A):=by
 have hn:=Q6 (S:=A) d.ids;have hm:((L3 A).map Cd.id).Nodup:=by rw[T9 d.ids];exact(QC (gs:=Hd A)).1.nd
 exact(l35 (List.Pairwise.of_map Cd.id (λa b h e=>h (congrArg Cd.id e)) hm) (List.Pairwise.of_map Cd.id (λa b h e=>h (congrArg Cd.id e)) hn)).2 λc=>A34 d.ids
def C0Z{D:Nat}{ps:List AN}:Fx true (D+3) (Di ps) (Di ps) H false:=by cases ps<;>exact λK=>by kernel_rfl
def A1a(a:GOk A)(i:200000<L){w:AV×Hp}(h:∀H,K (.agg [I 1,Di (J1 (Hd A)),Aw]) H=some w):(r! L (n+83)).call Do [.iptr [.imap (Dd DU (gE A))]] [] K=some w:=by
 rw[SU];unfold JI Ih;have e:∀{H:Hp},sF H (.iptr [.imap (Dd DU (gE A))]) A:=λ{H}=>.inl rfl;have f:∀{F:KV},Bx A5 AI [] F=F (.ptr 0 0 0) [(0,c_ A5 [I 0,Aw,Aw])]:=λ{F}=>Bv (cs:=[I 0,Aw,Aw]) rfl;rw[f,(e (H:=[(0,c_ A5 [I 0,Aw,Aw])])).nn,AY,zT (n:=n) a i e];have d:=wZ a;have b:=A5d a d;have j:∀{H:Hp}{F:K2},Ap (r! L (n+82)) Vf [Xy (L3 A)] H F=F (Di (J1 (Hd A))):=λ{H F}=>by
  rw[AO (B3R (L:=L) (n:=n+2) b (by omega) (λc hc=>by have:=Q7 (b.ok c hc);omega) (OS _)) (Al ((OS _).fx H) AD),A4G (Q6 a.ids) d]
 rw[j];have g:∀{F:K2},Cb AI [(0,1,(AV.v (.int .i64 1))),(1,1,Di (J1 (Hd A)))] F=F (.agg [I 1,Di (J1 (Hd A)),Aw]):=λ{F}=>by
  cases J1 (Hd A)<;>kernel_rfl
 have m:([I 1,Di (J1 (Hd A)),Aw]:Is).all AV.one=true:=by
  cases J1 (Hd A)<;>rfl
 rw[g,BO (cs:=[I 0,Aw,Aw]) (vs:=[I 1,Di (J1 (Hd A)),Aw]) rfl rfl rfl m];have k:Ah (upd [(0,c_ A5 [I 0,Aw,Aw])] 0 (c_ A5 [I 1,Di (J1 (Hd A)),Aw])) 0=some (c_ A5 [I 1,Di (J1 (Hd A)),Aw]):=BC (x:=.cells true A5 [I 0,Aw,Aw]) rfl;rw[Bu rfl rfl k];exact h _
def B3Q(g:GOk A)(f:200000<L)(k:sF H x A){F:K2}:I3 (r! L (n+83)) Do [x] H F=F (.agg [I 1,Di (J1 (Hd A)),Aw]):=by
 rcases k with rfl|⟨r,m,rfl,h1,h2⟩
 ·show Ap (r! L (n+83)) Do [.iptr [.imap (Dd DU (gE A))]] H F=_;exact CT.z (λK i=>A1a g f λH=>i _ H ⟨false,L0 (D:=11) (Al (q:=false) C7 (Al (q:=false) (C0Z (D:=8)) (Al (q:=false) C7 AD)))⟩) (Al (q:=false) RA AD)
 ·have e:I3 (r! L (n+83)) Do [.ptr r 0 0] H F=IP H r λx=>iK x λq _ cs=>match q,cs with
   |true,[.mp m]=>IP H m λy=>qT y λb=>ck (b.all λp=>dA 3 p.2) (Ax ((r! L (n+83)).call Do [.iptr [.imap b]] [] λv c=>NT c depth v λd=>some (d,[])) F)
   |_,_=>none:=rfl
  rw[e,Bl h1];show(IP H m λy=>qT y λb=>ck (b.all λp=>dA 3 p.2) (Ax ((r! L (n+83)).call Do [.iptr [.imap b]] [] λv c=>NT c depth v λd=>some (d,[])) F))=_;rw[Bl h2];show ck ((Dd DU (gE A)).all λp=>dA 3 p.2) _=_;rw[B2M,A1a (w:=(.agg [I 1,Di (J1 (Hd A)),Aw],[])) g f λH=>?_]
  ·rfl
  ·rw[show depth=11+1 from rfl];have h:∀F:K2,NT H (11+1) (.agg [I 1,Di (J1 (Hd A)),Aw]) F=Tg (NT H 11) [I 1,Di (J1 (Hd A)),Aw] λl=>F (.agg l):=λF=>rfl;rw[h,B1l];have:=lQ (q:=Tp) (λ_=>rfl) (J1 (Hd A));cases j:J1 (Hd A) with
   |nil=>rfl
   |cons a l=>
    rw[j]at this;show(fl1 (I 1)&&((AF (a::l)).all Tp&&(fl1 Aw&&true)))=true;rw[this];rfl
end
end
section
variable{L n:Nat}
section
variable{A out:ed}{H:Hp}{K:KV}{x w:AV}
def A5I{s:AN}:CS (r! L (n+2)) Fb [S s,.iptr [.imap (Dd DU (gE out))]] (Bo (decide (s∈out.map Cd.id))):=by
 intro K d;rw[OL];unfold GW LF;have c:∀{F:K2},AE Aj (.iptr [.imap (Dd DU (gE out))]) [] F=F (.imap (Dd DU (gE out))):=λ{F}=>NI rfl;rw[c];refine A4w (b:=gE out) (F:=λe _ a=>K e a) (λK=>r_ rfl) λf _=>?_;rw[jT];exact d _ _ λb=>⟨false,C7⟩
def MO(A:ed):AV:=if A=[] then Aw else Ls (NN A)
def sX:SA (NN A) (MO A):=by
 unfold MO;by_cases h:A=[]
 ·rw[Dv h];subst h;exact .inr ⟨by simp[NN,Eu],rfl⟩
 ·rw[CL h];exact .inl rfl
def B3A(hn:(A.map Cd.id).Nodup)(b:out.Perm (Hd A)):(Eu (A.map Cd.id)).filter (λs=>!decide (s∈out.map Cd.id))=NN A:=by
 refine FZ ?_ ((Da _).filter _) (Da _);refine List.Perm.trans ?_ (Bb _).symm;refine((Bb _).filter _).trans ?_;have e:(A.map Cd.id).filter (λs=>!decide (s∈out.map Cd.id))=(A.map Cd.id).filter λx=>@decide (¬Cmp A x) (Classical.propDecidable _):=by
  refine List.filter_congr λs c=>?_;have hc:s∈out.map Cd.id↔Cmp A s:=by rw[(b.map _).mem_iff];exact QT
  by_cases h:Cmp A s
  ·rw[Hu (hc.2 h),@decide_eq_false _ (_) (λa=>a h)];rfl
  ·rw[Ir (λa=>h (hc.1 a)),@decide_eq_true _ (_) h];rfl
 rw[e]
def C34{l:List AN}{r:Nat}{q:Bool}{tl:Is}{D:Nat}{b:Bool}(h2:Ah H r=some (.cells q Au (AF l++tl))):Fx b (D+1) (.sl 1 r 0 l.length) (Ls l) H true:=by
 refine XF (q':=false) h2 (by rw[EN,Be];omega) ?_;have:((AF l++tl).drop 0).take (l.length*1)=AF l:=by
  rw[qV,rT];have:=List.take_left (l₁:=AF l) (l₂:=tl);rw[Be]at this;exact this
 rw[this];exact VT l
def B3B(Q:Vo 6 w w=true)(C:GOk A)(Y:200000<L)(N:∀v H,(∀b,∃q,Fx b depth v (MO A) H q)->K v H=some (w,[])):
 (r! L (n+83)).call Cm [.iptr [.imap (Dd DU (gE A))]] [] K=some (w,[]):=by
 rw[Re];unfold IV DN;have hx:sF [] (.iptr [.imap (Dd DU (gE A))]) A:=.inl rfl;rw[hx.nn,AY];refine tB (n:=n+78) Q C (by omega) Ft λout m c hp hm _ w1 _ n1=>?_;rw[A2P (v:=.map none) rfl];have w2:=AG (x:=.cells true Az [.v (.map none)]) w1;have b2:Ah ((Ar c,c_ Az [.v (.map none)])::c) (Ar c)=some (c_ Az [.v (.map none)]):=Ay (by simp);rw[DT (cs:=[.v (.map none)]) b2 (by simp) rfl rfl rfl];have m2:=A6 (x:=.cells true Az [.v (.map none)]) (w1.lt hm) hm;have p:=Bm (r:=Ar c) (y:=.cells true Az ([AV.v (.map none)].set 0 (.mp m))) w2;have B:Ah (upd ((Ar c,c_ Az [.v (.map none)])::c) (Ar c) (c_ Az ([AV.v (.map none)].set 0 (.mp m)))) (Ar c)=some (c_ Az [.mp m]):=BC b2;have m3:Ah (upd ((Ar c,c_ Az [.v (.map none)])::c) (Ar c) (c_ Az ([AV.v (.map none)].set 0 (.mp m)))) m=some (.map false (Dd DU (gE out)) none):=by
  rw[Ag (by have:=w1.lt hm;omega)];exact m2
 generalize hb:Ar c=b at B m3;rw[hb]at p;generalize upd ((b,c_ Az [.v (.map none)])::c) b (c_ Az ([AV.v (.map none)].set 0 (.mp m)))=J at p B m3⊢;rw[A12,B3P (n:=n+77),Fw];unfold Eo;have Z:=C.len;refine A3H (n:=n+77) Q (by omega) (by omega) p λl v H4 d M hc=>?_;refine S? (n:=n+77) p (by rw[d.length_eq,QK];omega) M hc λV a=>?_;have e:Eu l=Eu (A.map Cd.id):=FZ ((Bb l).trans (d.trans (Bb _).symm)) (Da l) (Da _);rw[e]at a;have j:∀u,A8 v u->Ar J<=u:=a.new;have g:∀(D:Nat){f},Lat V f (A8 v)->Fx true (D+5) (.ptr b 0 0) (.iptr [.imap (Dd DU (gE out))]) f true:=λD{f}k=>by
  have kk:∀u y,Ah J u=some y->Ah f u=some y:=λu y O=>k.keep a.wf u y (a.keep u y O) λhh=>by have:=j u hh;have:=p.lt O;omega
  exact XG (D:=D+4) (kk _ _ B) (Al (q:=true) (q':=false) (A4H (D:=D) (kk _ _ m3)) AD)
 refine A9J (n:=n+80) (P:=λs=>decide (s∈out.map Cd.id)) a.wf a.sl.rq (by rw[(Bb _).length_eq,QK];omega) Y ⟨.fn (.func Fb) [] [.iptr [.imap (Dd DU (gE out))]],_,F? (D:=11) (Al (g 6 (Lat.refl _ _)) AD),λs K=>?_⟩ (λf R s K=>?_) λv' f F i R=>?_
 ·rw[O_ rfl rfl];exact AO (A5I (n:=n+78)) (Al (q:=false) C7 (Al (q:=false) RA AD))
 ·rw[O_ rfl rfl];exact AO (A5I (n:=n+79)) (Al (q:=false) C7 (Al (g 7 R) AD))
 ·rw[B3A C.ids hp]at F;by_cases t:A=[]
  ·have hv:v=Aw:=M (by subst t;exact gM (by rw[d.length_eq];rfl));rcases F with⟨rfl,h⟩|⟨r,q,tl,rfl,h⟩
   ·refine N _ _ λb=>⟨false,?_⟩
    unfold MO;rw[Dv t];exact C7
   ·have:=(i r).1 ⟨_,_,_,rfl⟩;rw[hv]at this;have⟨_,_,_,h⟩:=this;cases h
  ·rcases F with⟨rfl,h⟩|X
   ·rcases a.sl with⟨rfl,h1,h2⟩|⟨r,q,rfl,h2,_⟩
    ·have:(Eu (A.map Cd.id)).length=A.length:=by rw[(Bb _).length_eq,QK]
     exact absurd (gM (by omega)) t
    ·have:=(i r).2 ⟨_,_,_,rfl⟩;have⟨_,_,_,h⟩:=this;cases h
   ·obtain⟨r,q',tl,rfl,h⟩:=X;refine N _ _ λb=>⟨true,?_⟩
    unfold MO;rw[CL t];exact C34 h
def A9f:pl 6 (MO A)=true:=by
 unfold MO;by_cases h:A=[]
 ·rw[Dv h];rfl
 ·rw[CL h];exact lQ (q:=pl 5) (λ_=>rfl) _
def ZG(d:GOk A)(c:200000<L)(e:sF H x A){F:K2}:Ap (r! L (n+83)) Cm [x] H F=F (MO A):=by
 have⟨q1,a⟩:=e.fx (D:=7);exact AO (λK b=>B3B (TB 6 _ A9f) d c b) (Al a AD)
end
end
section
variable{L n:Nat}
def A2V(z:Int)(i:Nat):Bool:=decide (((pk z 1048576).fdiv (2^i)).tmod 2=1)
def VE(z:Int):Nat->ed->ed
 |_,[]=>[]
 |i,c::l=>if A2V z i then c::VE z (i+1) l else VE z (i+1) l
def SK{z:Int}{i:Nat}{c:Cd}{l:ed}:VE z i (c::l)=if A2V z i then c::VE z (i+1) l else VE z (i+1) l:=rfl
section
variable{H H0 H':Hp}{v a:AV}{gs A:ed}{K:KV}{x0:Af}{r m:Nat}{z:Int}
def StAt.kp(h:StAt H r m A)(k:Lat H H' (λ_=>False))(wf:Wf H):StAt H' r m A:=h.keep λu y b=>k.keep wf u y b id
def lP{k:KV}(B:40000<L)(f:GOk gs)(hz:Kv z)(q:LA gs a)(M:∀H',StAt H' r m (VE z 0 gs)->Lat H0 H' (λu=>u=m)->k (.ptr r 0 0) H'=x0):
 ∀(fuel i:Nat)(b:ed)(H:Hp),gs.length<fuel+i->i<=gs.length->b++VE z i (gs.drop i)=VE z 0 gs->(∀c∈b,c∈gs.take i)->b.length<=i->Wf H->StAt H r m b->Lat H0 H (λu=>u=m)->
  Rh (L+20) (r! L (n+66)) K k fuel a (I z) (.ptr r 0 0) (I i) H=x0
 |0,i,b,H,h1,h2,_,_,_,_,_,_=>by omega
 |fuel+1,i,b,H,h1,h2,d,y,Y,wf,s,C=>by
  rw[jG];unfold Rj D5 A4 FW;have V:=f.len;rw[q.len];by_cases hi:i<gs.length
  ·rw[XA2 (by omega),Cy];have X:∀{H:Hp}{F:K2},Ap (r! L (n+66)) IC [I z,(AV.v (.int .i64 1048576))] H F=F (I (pk z 1048576)):=λ{H F}=>(uG (n:=n+65) hz (by decide) (by decide)) H F;have j:∀{F:K2},Aq Ad .rem (I ((pk z 1048576).fdiv (2^i))) (AV.v (.int .i64 2)) F=F (I (((pk z 1048576).fdiv (2^i)).tmod 2)):=λ{F}=>Tz (by decide);rw[X,B05 (by omega),j,CV];have N:gs.drop i=gs[i]::gs.drop (i+1):=rV hi;rw[N]at d;rw[SK]at d;by_cases hb:((pk z 1048576).fdiv (2^i)).tmod 2=1
   ·have e:A2V z i=true:=Hu hb;rw[Dv e]at d;simp only[Hu hb,gT,BK,q.ia hi,oF];have D:gs[i].id∉b.map Cd.id:=λh=>by
     have⟨c,hc,he⟩:=Pu.1 h;have g:=f.ids;rw[<-l38 i gs,dW,l36]at g;exact g.2.2 _ (List.mem_map_of_mem (y c hc)) _ (List.mem_map_of_mem (by rw[N];exact List.mem_cons_self)) he
    have J:(PC.c gs[i]).Ok:=⟨f.ok _ (Ql hi),f.nd _ (Ql hi)⟩
    have O:TE b (.c gs[i])=(b++[gs[i]],true,0):=xD D;have put:∀{F:KV},(∀H',StAt H' r m (b++[gs[i]])->Lat H H' (λu=>u=m)->F (I 0) H'=x0)->Ei ((r! L (n+66)).call Fc [.ptr r 0 0,.agg gs[i].cs] H λv H=>some (v,H)) F=x0:=λ{F}R=>
     A9u (n:=n) (p:=.c gs[i]) (K:=λv H=>some (v,H)) (P:=λa=>Ei a F=x0) B J wf s (by omega) λx w t=>by
      rw[O]at w⊢;exact R x w t
    refine put λx w t=>?_;have Q:∀{F:K2},Aq Ad .neq (I 0) (AV.v (.int .i64 0)) F=F (Bo false):=λ{F}=>by kernel_rfl
    simp only[BK,Q,SJ,AY];rw[CW (by omega)];refine lP B f hz q M fuel (i+1) (b++[gs[i]]) x (by omega) (by omega) (by rw[<-d];simp) (λc hc=>?_) (by simp;omega) (t.wf wf) w (C.trans t (λ_ _ h=>h) (λ_ _ h=>h));rw[nL hi];rcases dV.1 hc with hc|hc
    ·exact List.mem_append_left _ (y c hc)
    ·exact List.mem_append_right _ hc
   ·have e:A2V z i=false:=Ir hb;rw[e]at d;simp only[Ir hb,dY,gU,gT,BK,QA,SJ,AY];rw[CW (by omega)];refine lP B f hz q M fuel (i+1) b H (by omega) (by omega) (by simpa using d) (λc hc=>?_) (by omega) wf s C;have:=y c hc;rw[nL hi];exact List.mem_append_left _ this
  ·rw[Fk (by omega),AY];rw[List.drop_of_length_le (by omega)]at d;have d:b++[]=VE z 0 gs:=d;rw[Vq]at d;rw[d]at s;exact M H s C
def hY(f:40000<L)(d:GOk gs)(hz:Kv z)(g:LA gs a)(wf:Wf H)(i:∀r m H',StAt H' r m (VE z 0 gs)->Ar H<=m->Lat H H' (λ_=>False)->K (.tup [.ptr r 0 0,Bo true]) H'=x0):
 (r! L (n+67)).call Ko [a,I z] H K=x0:=by
 rw[mV];unfold SX A4 Ks FW;rw[B6L (n:=n+65)];have⟨e,w1,k1⟩:=B1c wf;rw[e.sv.nn,AY];simp only[BF];have j:Lat H ((Ar H+1,c_ D6 [.mp (Ar H)])::(Ar H,.map false [] none)::H) (λu=>u=Ar H):=⟨λ_=>w1,by show Ar H<=Ar H+1+1;omega,λ_ u y b _=>k1 u y b⟩
 have h:=d.len;refine lP (n:=n) (H0:=H) f d hz g (λH' k c=>?_) (L+20) 0 [] _ (by omega) (by omega) rfl (by simp) (by simp) w1 e j;exact i _ _ H' k (MC _) ⟨c.wf,c.nx,λw u y b _=>c.keep w u y b (by have:=w.lt b;omega)⟩
end
end
end Go.Abs
end
noncomputable section
namespace Go.Proofs
open Go.Abs
set_option maxRecDepth 100000
def UB:JE Ru TG:=λL R K e ih c d b a=>DN 2 c A1 a λf=>Ba A1 f λg=>Aq Ad .lss b g λh=>A2 h (T6 2 c A1 a λi=>Kx A1 i b BJ a λj=>T6 2 d A1 a λk=>Kx A1 k b BJ a λl=>Ax (Vg Uc .neq j l AS) λm=>A2 m (K FW a) (Aq Ad .add b (A4 1) λn=>ih c d n a)) (e a)
def UA:JD Ru TG:=JV z3N UB
def pV:Kr UA UB:=λ_ _ _ _ _=>rfl
def Xm:Jf:=λL R a0 a1 H K=>FV Ek a0 H λb k=>FV Ek a1 k λc e=>DN 0 b A3 e λl=>DN 0 c A3 e λm=>Vg JA .neq l m λd=>OV d e 3 b A3 λn o=>OV d o 3 c A3 λp f=>Fg d f (Vg JA .neq n p (Dq f)) λq r=>Cj d Ks q λa=>OV a r 2 b A1 λs g=>Fg a g (Ba A1 s (Dq g)) λt u=>OV a u 2 c A1 λv h=>Fg a h (Ba A1 v (Dq h)) λw i=>Fg a i (Aq Ad .neq t w (Dq i)) λx j=>Cj a Ks x λy=>A2 y (K FW j) (jn (λz=>K Ks z) λaa=>jn (λab=>aa ab) λac=>UA L R K ac L b c (A4 0) j)
def uX(L:Nat)(R:Rt)(a0 a1:AV)(H:Hp)(K:KV):O! (E L) (MD (E L) R) KL [a0,a1] H K=Xm L R a0 a1 H K:=by kernel_rfl
def uY(L n:Nat)(a b:AV)(H:Hp)(K:KV):(rt L (n+1)).call KL [a,b] H K=Xm L (rt L n) a b H K:=(show _=O! (E L) (MD (E L) (rt L n)) KL [a,b] H K from rfl).trans (uX L (rt L n) a b H K)
def Uw:JE Ru Q9:=λL R K e ih c d f b a=>DN 2 c Av a λg=>Ba Av g λh=>Aq Ad .lss b h λi=>A2 i (T6 2 c Av a λj=>Kx Av j b AP a λk=>T6 2 d Av a λl=>Kx Av l b AP a λm=>Ax (Vg IL .neq k m AS) λn=>A2 n (K FW a) (Aq Ad .add b (A4 1) λo=>ih c d f o a)) (e a)
def Uu:JD Ru Q9:=JV rI Uw
def pR:Kr Uu Uw:=λ_ _ _ _ _=>rfl
def Uv:JE TG Q9:=λL R K e ih c d b f a=>DN 1 c Ak a λg=>Ba Ak g λh=>Aq Ad .lss b h λi=>A2 i (T6 1 c Ak a λj=>Kx Ak j b A0 a λk=>T6 1 d Ak a λl=>Kx Ak l b A0 a λm=>Ax (Vg IJ .neq k m AS) λn=>A2 n (K FW a) (Aq Ad .add b (A4 1) λo=>ih c d o f a)) (e c d b a)
def Ut:JD TG Q9:=JV rI Uv
def pQ:Kr Ut Uv:=λ_ _ _ _ _=>rfl
def Xi:Jf:=λL R a0 a1 H K=>FV Co a0 H λc o=>FV Co a1 o λd f=>DN 0 c Ad f λp=>DN 0 d Ad f λq=>Aq Ad .neq p q λe=>OV e f 3 c A0 λr s=>OV e s 3 d A0 λt g=>Fg e g (Vg IJ .neq r t (Dq g)) λu v=>Cj e Ks u λa=>OV a v 1 c Ak λw h=>Fg a h (Ba Ak w (Dq h)) λx y=>OV a y 1 d Ak λz i=>Fg a i (Ba Ak z (Dq i)) λaa j=>Fg a j (Aq Ad .neq x aa (Dq j)) λab ac=>Cj a Ks ab λb=>OV b ac 2 c Av λad k=>Fg b k (Ba Av ad (Dq k)) λae af=>OV b af 2 d Av λag l=>Fg b l (Ba Av ag (Dq l)) λah m=>Fg b m (Aq Ad .neq ae ah (Dq m)) λai n=>Cj b Ks ai λaj=>A2 aj (K FW n) (jn (λak al am an=>jn (λao=>K Ks ao) λap=>jn (λaq=>ap aq) λar=>Uu L R K ar L ak al am (A4 0) an) λau=>jn (λav aw ax ay=>au av aw ax ay) λaz=>Ut L R K az L c d (A4 0) AV.dk n)
def uR(L:Nat)(R:Rt)(a0 a1:AV)(H:Hp)(K:KV):O! (E L) (MD (E L) R) Hq [a0,a1] H K=Xi L R a0 a1 H K:=by kernel_rfl
def uT(L n:Nat)(a b:AV)(H:Hp)(K:KV):(rt L (n+1)).call Hq [a,b] H K=Xi L (rt L n) a b H K:=(show _=O! (E L) (MD (E L) (rt L n)) Hq [a,b] H K from rfl).trans (uR L (rt L n) a b H K)
def UG:JE Ru TG:=λL R K e ih c d b a=>Ba Ac c λf=>Aq Ad .lss b f λg=>A2 g (Kx Ac c b Ai a λh=>Kx Ac d b Ai a λi=>Ax (Aq Ai .neq h i AS) λj=>A2 j (K FW a) (Aq Ad .add b (A4 1) λk=>ih c d k a)) (e a)
def UF:JD Ru TG:=JV z3N UG
def pX:Kr UF UG:=λ_ _ _ _ _=>rfl
def Xo:Jf:=λL R a0 a1 H K=>Ba Ac a0 λa=>Ba Ac a1 λb=>Aq Ad .neq a b λc=>A2 c (K FW H) (jn (λd=>K Ks d) λe=>jn (λf=>e f) λg=>UF L R K g L a0 a1 (A4 0) H)
def vC(L:Nat)(R:Rt)(a0 a1:AV)(H:Hp)(K:KV):O! (E L) (MD (E L) R) KN [a0,a1] H K=Xo L R a0 a1 H K:=by kernel_rfl
def vD(L n:Nat)(a b:AV)(H:Hp)(K:KV):(rt L (n+1)).call KN [a,b] H K=Xo L (rt L n) a b H K:=(show _=O! (E L) (MD (E L) (rt L n)) KN [a,b] H K from rfl).trans (vC L (rt L n) a b H K)
end Go.Proofs
end
noncomputable section
namespace Go.Abs
open Go.RowKit Go.Proofs
set_option maxRecDepth 100000
section
variable{w:AV}{F:K2}{k:Ru}{t:Int×Int}{ks:Hb}{c1 c2 r1 r2:Ha}{u:UD}
variable{L n:Nat}
def C4E{ks:List LK}{xs:Hx}(h:fits ks xs=true){K:K2}:Vg ks .eql (.agg (xs.map AV.v)) (.agg (xs.map AV.v)) K=K (Bo true):=by
 rw[qO];exact A2J xs h K
def B2p{ks:List LK}{xs:Hx}(h:fits ks xs=true){K:K2}:Vg ks .neq (.agg (xs.map AV.v)) (.agg (xs.map AV.v)) K=K (Bo false):=by
 have e:Vg ks .neq (.agg (xs.map AV.v)) (.agg (xs.map AV.v)) K=eJ (xs.map AV.v) λc=>eJ (xs.map AV.v) λd=>ck (fits ks c) (match Ys c d,BinOp.neq with
  |some q,.eql=>bB q K
  |some q,.neq=>bB (!q) K
  |_,_=>none):=rfl
 rw[e,sA,sA,M? h,h];show bB (!true) K=_;rw[NY];rfl
section
variable{H:Hp}{K:K2}{a b:Ha}{x0:Af}
def C4y:Vg JA .neq (.agg [S a,S b]) (.agg [S a,S b]) K=K (Bo false):=B2p (ks:=JA) (xs:=[.string ⟨⟨a⟩⟩,.string ⟨⟨b⟩⟩]) rfl
def C4x:Vg Uc .neq (.agg (NO t)) (.agg (NO t)) K=K (Bo false):=B2p (ks:=Uc) (xs:=[.int .i64 t.1,.string ⟨⟨qn t.2⟩⟩,.string ⟨⟨qd t.2⟩⟩]) rfl
def C4z{x:Nd}:Vg IL .neq (.agg x.cs) (.agg x.cs) K=K (Bo false):=
 B2p (ks:=IL) (xs:=[.int .i64 x.op,.string ⟨⟨x.vn⟩⟩,.string ⟨⟨x.vd⟩⟩,.int .i64 x.u.p0,.int .i64 x.u.q0,.int .i64 x.u.p1,.int .i64 x.u.q1,.int .i64 x.u.p2,.int .i64 x.u.q2,.int .i64 x.u.p3,.int .i64 x.u.q3,.int .i64 x.u.p4,.int .i64 x.u.q4,.int .i64 x.u.p5,.int .i64 x.u.q5,.int .i64 x.u.p6,.int .i64 x.u.q6,
  .string ⟨⟨x.u.fn⟩⟩,.string ⟨⟨x.u.fd⟩⟩,.string ⟨⟨x.u.on⟩⟩,.string ⟨⟨x.u.od⟩⟩,.int .i64 x.u.kd,.int .i64 x.u.sc,.int .i64 x.n,.int .i64 x.l,.int .i64 x.r]) rfl
def B7r:Vg IJ .neq (.agg (Cz u)) (.agg (Cz u)) K=K (Bo false):=C1n
def C4w:Vg IJ .eql (.agg (Cz u)) (.agg (Cz u)) K=K (Bo true):=by rw[qO];exact kI u K
def C4A{r:RD}:Vg IK .eql (.agg r.cs) (.agg r.cs) K=K (Bo true):=
 C4E (ks:=IK) (xs:=[.int .i64 r.k,.string ⟨⟨r.a1⟩⟩,.string ⟨⟨r.a2⟩⟩,.string ⟨⟨r.b1⟩⟩,.string ⟨⟨r.b2⟩⟩,.string ⟨⟨r.c1⟩⟩,.string ⟨⟨r.c2⟩⟩,.string ⟨⟨r.d1⟩⟩,.string ⟨⟨r.d2⟩⟩]) rfl
def C1j:AE BJ (.iptr (NO t)) H F=F (.agg (NO t)):=r_ rfl
def neI{z:Int}{ty:TI}:Aq ty .neq (I z) (I z) F=F (Bo false):=by rw[I2,Hu rfl];rfl
def eqI{z:Int}{ty:TI}:Aq ty .eql (I z) (I z) F=F (Bo true):=by rw[CV,Hu rfl]
def C1J{ty:Nat}{cs:Is}{F:AV->KV}(h1:cs.all AV.one=true)(e:∀a b H,Ah H a=some (c_ ty cs)->Ah H b=some (c_ ty cs)->F (.ptr a 0 0) (.ptr b 0 0) H=x0):
 (FV ty (.agg cs) [] λv1 c=>FV ty (.agg cs) c λf d=>F v1 f d)=x0:=by
 rw[DZ h1,DZ h1];exact e _ _ _ (A6 (H:=[(Ar [],c_ ty cs)]) (Nat.lt_succ_self _) (Ay (by simp))) (Ay (by simp))
end
section
variable{H:Hp}{K:KV}{x0:Af}{a b:Nat}
def B6X{t:Nat}{ts:eO}(e:ts.length<1000)(c:Ah H a=some (c_ t [S c1,S c2,E4 ts,S r1,S r2]))(hb:Ah H b=some (c_ t [S c1,S c2,E4 ts,S r1,S r2]))(d:k H=x0):
 ∀(fuel i:Nat),ts.length<fuel+i->i<=ts.length->UA (L+20) (r! L n) K k fuel (.ptr a 0 0) (.ptr b 0 0) (I i) H=x0
 |0,i,h1,h2=>by omega
 |fuel+1,i,h1,h2=>by
  rw[pV];unfold UB DN T6 Kx A4 FW;have f:∀{F:K2},AE A1 (.ptr a 2 0) H F=F (E4 ts):=λ{F}=>AL (p:=2) rfl c (by show 2<5;decide);have g:∀{F:K2},AE A1 (.ptr b 2 0) H F=F (E4 ts):=λ{F}=>AL (p:=2) rfl hb (by show 2<5;decide);simp only[Wh,f,g,B1,MZ];by_cases h:i<ts.length
  ·rw[XA2 (by omega),Cy];simp only[Ue h,C1j,C4x,B1];rw[AY,CW (by omega)];exact B6X e c hb d fuel (i+1) (by omega) (by omega)
  ·rw[Fk (by omega),AY];exact d
def B55{ts:eO}(f:ts.length<1000)(m:1000<L):CS (r! L (n+1)) KL [.agg [S c1,S c2,E4 ts,S r1,S r2],.agg [S c1,S c2,E4 ts,S r1,S r2]] (Bo true):=by
 intro K e;rw[uY];unfold Xm DN OV Fg A4 Ks FW;refine C1J (by cases ts<;>rfl) λa b H c hb=>?_;have g:∀{F:K2},AE A1 (.ptr a 2 0) H F=F (E4 ts):=λ{F}=>AL (p:=2) rfl c (by show 2<5;decide);have h:∀{F:K2},AE A1 (.ptr b 2 0) H F=F (E4 ts):=λ{F}=>AL (p:=2) rfl hb (by show 2<5;decide);have d:∀{F:K2},AE A3 (.ptr a 0 0) H F=F (.agg [S c1,S c2]):=λ{F}=>DD rfl c (by show 0+2<=5;decide);have cb:∀{F:K2},AE A3 (.ptr b 0 0) H F=F (.agg [S c1,S c2]):=λ{F}=>DD rfl hb (by show 0+2<=5;decide);have i:∀{F:K2},AE A3 (.ptr a 3 0) H F=F (.agg [S r1,S r2]):=λ{F}=>DD rfl c (by show 3+2<=5;decide);have j:∀{F:K2},AE A3 (.ptr b 3 0) H F=F (.agg [S r1,S r2]):=λ{F}=>DD rfl hb (by show 3+2<=5;decide);simp only[Wh,d,cb,i,j,g,h,C4y,gT,BK,QA,MZ,neI,AY,BF];exact B6X (n:=n) f c hb (e _ _ λb=>⟨false,C7⟩) (L+20) 0 (by omega) (by omega)
def B6Y{l:List AN}(d:l.length<1000)(c:k H=x0):
 ∀(fuel i:Nat),l.length<fuel+i->i<=l.length->UF (L+20) (r! L n) K k fuel (Di l) (Di l) (I i) H=x0
 |0,i,h1,h2=>by omega
 |fuel+1,i,h1,h2=>by
  rw[pX];unfold UG Kx A4 FW;rw[rQ];by_cases h:i<l.length
  ·rw[XA2 (by omega),Cy];simp only[(Lo l).ia h,JS,B1,RS,decide_true,Bool.not_true];rw[AY,CW (by omega)];exact B6Y d c fuel (i+1) (by omega) (by omega)
  ·rw[Fk (by omega),AY];exact c
def B56{l:List AN}(d:l.length<1000)(e:1000<L):CS (r! L (n+1)) KN [Di l,Di l] (Bo true):=by
 intro K c;rw[vD];unfold Xo A4 Ks FW;rw[rQ,rQ,neI,AY];simp only[BF];exact B6Y (n:=n) d (c _ _ λb=>⟨false,C7⟩) (L+20) 0 (by omega) (by omega)
def B6W{t:Nat}{xs:List Nd}{id:Int}{o:UD}(e:xs.length<1000)(c:Ah H a=some (c_ t (B0 id (BE ks) (Ck xs) o)))(hb:Ah H b=some (c_ t (B0 id (BE ks) (Ck xs) o)))(d:k H=x0):
 ∀(fuel i:Nat),xs.length<fuel+i->i<=xs.length->Uu (L+20) (r! L n) K k fuel (.ptr a 0 0) (.ptr b 0 0) w (I i) H=x0
 |0,i,h1,h2=>by omega
 |fuel+1,i,h1,h2=>by
  rw[pR];unfold Uw DN T6 Kx A4 FW;have f:∀{F:K2},AE Av (.ptr a 2 0) H F=F (Ck xs):=λ{F}=>AL (p:=2) rfl c (by show 2<23;decide);have g:∀{F:K2},AE Av (.ptr b 2 0) H F=F (Ck xs):=λ{F}=>AL (p:=2) rfl hb (by show 2<23;decide);simp only[Wh,f,g,B1,QR];by_cases h:i<xs.length
  ·rw[XA2 (by omega),Cy];simp only[kH h,kF,C4z,B1];rw[AY,CW (by omega)];exact B6W e c hb d fuel (i+1) (by omega) (by omega)
  ·rw[Fk (by omega),AY];exact d
def B6V{t:Nat}{xs:List Nd}{id:Int}{o:UD}{k:AV->AV->KV}(e:ks.length<1000)(c:Ah H a=some (c_ t (B0 id (BE ks) (Ck xs) o)))(hb:Ah H b=some (c_ t (B0 id (BE ks) (Ck xs) o)))(d:∀w,k (.ptr a 0 0) (.ptr b 0 0) w H=x0):
 ∀(fuel i:Nat),ks.length<fuel+i->i<=ks.length->Ut (L+20) (r! L n) K k fuel (.ptr a 0 0) (.ptr b 0 0) (I i) w H=x0
 |0,i,h1,h2=>by omega
 |fuel+1,i,h1,h2=>by
  rw[pQ];unfold Uv DN T6 Kx A4 FW;have f:∀{F:K2},AE Ak (.ptr a 1 0) H F=F (BE ks):=λ{F}=>AL (p:=1) rfl c (by show 1<23;decide);have g:∀{F:K2},AE Ak (.ptr b 1 0) H F=F (BE ks):=λ{F}=>AL (p:=1) rfl hb (by show 1<23;decide);simp only[Wh,f,g,B1,Na];by_cases h:i<ks.length
  ·rw[XA2 (by omega),Cy];simp only[ZY h,ZX,B7r,B1];rw[AY,CW (by omega)];exact B6V e c hb d fuel (i+1) (by omega) (by omega)
  ·rw[Fk (by omega),AY];exact d _
def B54{xs:List Nd}{id:Int}{o:UD}(h1:ks.length<1000)(h2:xs.length<1000)(r:1000<L):CS (r! L (n+1)) Hq [.agg (B0 id (BE ks) (Ck xs) o),.agg (B0 id (BE ks) (Ck xs) o)] (Bo true):=by
 intro K d;rw[uT];unfold Xi DN OV Fg A4 Ks FW;refine C1J (by rfl) λa b H c hb=>?_;have e:∀{F:K2},AE Ak (.ptr a 1 0) H F=F (BE ks):=λ{F}=>AL (p:=1) rfl c (by show 1<23;decide);have f:∀{F:K2},AE Ak (.ptr b 1 0) H F=F (BE ks):=λ{F}=>AL (p:=1) rfl hb (by show 1<23;decide);have g:∀{F:K2},AE Av (.ptr a 2 0) H F=F (Ck xs):=λ{F}=>AL (p:=2) rfl c (by show 2<23;decide);have h:∀{F:K2},AE Av (.ptr b 2 0) H F=F (Ck xs):=λ{F}=>AL (p:=2) rfl hb (by show 2<23;decide);have i:∀{F:K2},AE Ad (.ptr a 0 0) H F=F (I id):=λ{F}=>AL (p:=0) rfl c (by show 0<23;decide);have j:∀{F:K2},AE Ad (.ptr b 0 0) H F=F (I id):=λ{F}=>AL (p:=0) rfl hb (by show 0<23;decide);have m:∀{F:K2},AE A0 (.ptr a 3 0) H F=F (.agg (Cz o)):=λ{F}=>DD rfl c (by show 3+20<=23;decide);have q:∀{F:K2},AE A0 (.ptr b 3 0) H F=F (.agg (Cz o)):=λ{F}=>DD rfl hb (by show 3+20<=23;decide);simp only[Wh,e,f,g,h,i,j,m,q,B7r,gT,BK,QA,Na,QR,neI,AY,BF];exact B6V (n:=n) h1 c hb (λw=>B6W (n:=n) h2 c hb (d _ _ λb=>⟨false,C7⟩) (L+20) 0 (by omega) (by omega)) (L+20) 0 (by omega) (by omega)
def B53:PS (r! L (n+40)) Hq [.agg (B0 0 Aw Aw u0),.agg (B0 0 Aw Aw u0)] (Bo true):=A1E
def B0Q:PS (r! L (n+40)) jY [.agg [I 0,Aw,Aw],.agg [I 0,Aw,Aw]] (Bo true):=BM (λH K=>by kernel_rfl) (by kernel_rfl)
end
end
section
variable{gs:ed}
variable{L n:Nat}
section
variable{H:Hp}{K:KV}{x0:Af}{a b:Nat}
def B0P{kd:Int}{m:ND}{u:UD}{ca cb:Ha}{T:AV}{ra rb:Ha}{P:AV}{id:Int}{ins c:AV}{o:UD}{r:RD}{vd:Int}(o1:AV.one T=true)(o2:AV.one P=true)(o3:AV.one ins=true)(o4:AV.one c=true)(Z:PS (r! L (n+40)) KL [.agg (NU ca cb T ra rb),.agg (NU ca cb T ra rb)] (Bo true))(h9:PS (r! L (n+40)) Hq [.agg (B0 id ins c o),.agg (B0 id ins c o)] (Bo true))(h2:PS (r! L (n+40)) KN [P,P] (Bo true)):
 CS (r! L (n+41)) Pc [.agg (Ea kd m u ca cb T ra rb P id ins c o r vd),.agg (Ea kd m u ca cb T ra rb P id ins c o r vd)] (Bo true):=by
 intro K hK;rw[uO];unfold Xc LF;refine C1J (by
  have e:(Ea kd m u ca cb T ra rb P id ins c o r vd).all AV.one=(AV.one T&&(AV.one P&&(AV.one ins&&(AV.one c&&true)))):=rfl;rw[e,o1,o2,o3,o4];rfl) λa b H h hb=>?_
 have f:∀{i:Nat}{t:TI}(h1:t.d.isAgg=false)(h2:i<68){F:K2},AE t (.ptr a i 0) H F=F ((Ea kd m u ca cb T ra rb P id ins c o r vd).getD i .dk):=λ{i t}h1 h2{F}=>AL (p:=i) h1 h h2;have g:∀{i:Nat}{t:TI}(h1:t.d.isAgg=false)(h2:i<68){F:K2},AE t (.ptr b i 0) H F=F ((Ea kd m u ca cb T ra rb P id ins c o r vd).getD i .dk):=λ{i t}h1 h2{F}=>AL (p:=i) h1 hb h2;have N:∀{F:K2},AE Ad (.ptr a 0 0) H F=F (I kd):=λ{F}=>f (i:=0) rfl (by decide);have b0:∀{F:K2},AE Ad (.ptr b 0 0) H F=F (I kd):=λ{F}=>g (i:=0) rfl (by decide);have a1:∀{F:K2},AE Ad (.ptr a 1 0) H F=F (I m.lab):=λ{F}=>f (i:=1) rfl (by decide);have b1:∀{F:K2},AE Ad (.ptr b 1 0) H F=F (I m.lab):=λ{F}=>g (i:=1) rfl (by decide);have a2:∀{F:K2},AE Ad (.ptr a 2 0) H F=F (I m.num):=λ{F}=>f (i:=2) rfl (by decide);have b2:∀{F:K2},AE Ad (.ptr b 2 0) H F=F (I m.num):=λ{F}=>g (i:=2) rfl (by decide);have O:∀{F:K2},AE Ad (.ptr a 3 0) H F=F (I m.itm):=λ{F}=>f (i:=3) rfl (by decide);have X:∀{F:K2},AE Ad (.ptr b 3 0) H F=F (I m.itm):=λ{F}=>g (i:=3) rfl (by decide);have Q:∀{F:K2},AE Ad (.ptr a 4 0) H F=F (I m.tim):=λ{F}=>f (i:=4) rfl (by decide);have b4:∀{F:K2},AE Ad (.ptr b 4 0) H F=F (I m.tim):=λ{F}=>g (i:=4) rfl (by decide);have R:∀{F:K2},AE Ad (.ptr a 5 0) H F=F (I m.day):=λ{F}=>f (i:=5) rfl (by decide);have Y:∀{F:K2},AE Ad (.ptr b 5 0) H F=F (I m.day):=λ{F}=>g (i:=5) rfl (by decide);have k:∀{F:K2},AE Ac (.ptr a 31 0) H F=F P:=λ{F}=>f (i:=31) rfl (by decide);have y:∀{F:K2},AE Ac (.ptr b 31 0) H F=F P:=λ{F}=>g (i:=31) rfl (by decide);have v:∀{F:K2},AE Ad (.ptr a 64 0) H F=F (I vd):=λ{F}=>f (i:=64) rfl (by decide);have C:∀{F:K2},AE Ad (.ptr b 64 0) H F=F (I vd):=λ{F}=>g (i:=64) rfl (by decide);have V:∀{F:K2},AE A0 (.ptr a 6 0) H F=F (.agg (Cz u)):=λ{F}=>DD rfl h (by show 6+20<=68;decide);have b6:∀{F:K2},AE A0 (.ptr b 6 0) H F=F (.agg (Cz u)):=λ{F}=>DD rfl hb (by show 6+20<=68;decide);have j:∀{F:K2},AE Fo (.ptr a 26 0) H F=F (.agg (NU ca cb T ra rb)):=λ{F}=>DD rfl h (by show 26+5<=68;decide);have x:∀{F:K2},AE Fo (.ptr b 26 0) H F=F (.agg (NU ca cb T ra rb)):=λ{F}=>DD rfl hb (by show 26+5<=68;decide);have q:∀{F:K2},AE AU (.ptr a 32 0) H F=F (.agg (B0 id ins c o)):=λ{F}=>DD rfl h (by show 32+23<=68;decide);have A:∀{F:K2},AE AU (.ptr b 32 0) H F=F (.agg (B0 id ins c o)):=λ{F}=>DD rfl hb (by show 32+23<=68;decide);have s:∀{F:K2},AE Ef (.ptr a 55 0) H F=F (.agg r.cs):=λ{F}=>DD rfl h (by show 55+9<=68;decide);have B:∀{F:K2},AE Ef (.ptr b 55 0) H F=F (.agg r.cs):=λ{F}=>DD rfl hb (by show 55+9<=68;decide);have w:∀{F:K2},AE LO (.ptr a 65 0) H F=F (.agg [I 0,Aw,Aw]):=λ{F}=>DD rfl h (by show 65+3<=68;decide);have D:∀{F:K2},AE LO (.ptr b 65 0) H F=F (.agg [I 0,Aw,Aw]):=λ{F}=>DD rfl hb (by show 65+3<=68;decide);have J:=B0Q (L:=L) (n:=n);have p8:∀{F:K2},Ap (r! L (n+40)) KL [.agg (NU ca cb T ra rb),.agg (NU ca cb T ra rb)] H F=F (Bo true):=λ{F}=>Z H F;have p9:∀{F:K2},Ap (r! L (n+40)) Hq [.agg (B0 id ins c o),.agg (B0 id ins c o)] H F=F (Bo true):=λ{F}=>h9 H F;have p2:∀{F:K2},Ap (r! L (n+40)) KN [P,P] H F=F (Bo true):=λ{F}=>h2 H F;have M:∀{F:K2},Ap (r! L (n+40)) jY [.agg [I 0,Aw,Aw],.agg [I 0,Aw,Aw]] H F=F (Bo true):=λ{F}=>J H F;simp only[Wh,j,x,p8,q,A,p9,k,y,p2,w,D,M,DK,Bool.not_true,gT,BK,QA,AY];simp only[N,b0,a1,b1,a2,b2,O,X,Q,b4,R,Y,eqI,gT,BK,SJ,Wh,V,b6,C4w,s,B,C4A,v,C];exact hK _ _ λb=>⟨false,C7⟩
def A62{l:List AN}:Fx true depth (Di l) (Di l) H false:=by cases l<;>exact λK=>by kernel_rfl
def B6k{c:Cd}(h:c.Ok)(e:1000<L):CS (r! L (n+41)) Pc [.agg c.cs,.agg c.cs] (Bo true):=by
 have f8:∀{ts:eO}{c1 c2 r1 r2:Ha},ts.length<=6->PS (r! L (n+40)) KL [.agg (NU c1 c2 (E4 ts) r1 r2),.agg (NU c1 c2 (E4 ts) r1 r2)] (Bo true):=λ{ts c1 c2 r1 r2}f H F=>by
  have fx:Fx true depth (.agg (NU c1 c2 (E4 ts) r1 r2)) (.agg (NU c1 c2 (E4 ts) r1 r2)) H false:=by cases ts<;>exact λK=>by kernel_rfl
  exact AO (B55 (n:=n+39) (by omega) e) (Al fx (Al fx AD))
 have f2:∀{ps:List AN},ps.length<=6->PS (r! L (n+40)) KN [Di ps,Di ps] (Bo true):=λ{ps}f H F=>
  AO (B56 (n:=n+39) (by omega) e) (Al A62 (Al A62 AD))
 have f9:∀{p:Pr},p.Ok->PS (r! L (n+40)) Hq [.agg (B0 p.id (BE p.ks) (Ck p.xs) (uu p.out)),.agg (B0 p.id (BE p.ks) (Ck p.xs) (uu p.out))] (Bo true):=λ{p}d H F=>by
  have fx:Fx true depth (.agg (B0 p.id (BE p.ks) (Ck p.xs) (uu p.out))) (.agg (B0 p.id (BE p.ks) (Ck p.xs) (uu p.out))) H false:=λK=>by kernel_rfl
  have g:p.xs.length<1000:=by
   have:=d.k3;show(Ly p.ks++p.x.nd).length<1000;rw[EN,DW];have:p.x.nd.length<=1:=by cases p.x<;>simp[Ex.nd]
   omega
  exact AO (B54 (n:=n+39) (by have:=d.k3;omega) g e) (Al fx (Al fx AD))
 have ot:∀ts:eO,AV.one (E4 ts)=true:=λts=>by cases ts<;>rfl
 have op:∀ps:List AN,AV.one (Di ps)=true:=λps=>by cases ps<;>rfl
 match c,h with
 |.re b u,⟨hb,_⟩=>exact B0P (ot _) (op []) rfl rfl (f8 hb.ts.len) B53 (f2 (ps:=[]) (by simp))
 |.co b p ps none,⟨hb,d,f,_⟩=>exact B0P (ot _) (op ps) rfl rfl (f8 hb.ts.len) (f9 d) (f2 (by have:=d.k3;omega))
 |.co b p ps (some (k,vd)),⟨hb,d,f,_⟩=>exact B0P (ot _) (op ps) rfl rfl (f8 hb.ts.len) (f9 d) (f2 (by have:=d.k3;omega))
def A1r{a:AV}{k:Ru}(f:∀c∈gs,c.Ok)(j:gs.length<1000)(e:1000<L)(d:LA gs a)(g:k H=x0):
 ∀(fuel i:Nat),gs.length<fuel+i->i<=gs.length->Nq (L+20) (r! L (n+41)) K k fuel a a (I i) H=x0
 |0,i,h1,h2=>by omega
 |fuel+1,i,h1,h2=>by
  rw[YH];unfold Nr Kx A4 FW;rw[d.len];by_cases h:i<gs.length
  ·rw[XA2 (by omega),Cy];have m:∀{F:K2},Ap (r! L (n+41)) Pc [.agg gs[i].cs,.agg gs[i].cs] H F=F (Bo true):=λ{F}=>AO (B6k (n:=n) (f _ (Ql h)) e) (Al (PC.fx (.c gs[i])) (Al (PC.fx (.c gs[i])) AD));simp only[d.ia h,oF,B1,m,DK,Bool.not_true];rw[AY,CW (by omega)];exact A1r f j e d g fuel (i+1) (by omega) (by omega)
  ·rw[Fk (by omega),AY];exact g
def B3K{a:AV}(g:∀c∈gs,c.Ok)(h:gs.length<1000)(f:1000<L)(d:LA gs a):CS (r! L (n+42)) L9 [a,a] (Bo true):=by
 intro K e;rw[dH];unfold OA A4 Ks FW;rw[d.len,d.len,neI,AY];simp only[BF];exact A1r (n:=n) g h f d (e _ _ λb=>⟨false,C7⟩) (L+20) 0 (by omega) (by omega)
end
end


section
variable{F:K2}{i:Nat}
variable{n:Nat}
section
variable{H:Hp}{v:AV}{r m:Nat}{x:AV}{ps:PV}{ws:List Pk}
def B7u(h:i<m):D4 AT (.sl 3 r 0 m) (I (i:Int)) F=F (.ptr r (i*3) 0):=by
 have b:D4 AT (.sl 3 r 0 m) (I (i:Int)) F=iN (i:Int) λn=>ck (Nat.blt n m) (fN (Nat.add 0 (Nat.mul n 3)) λp=>F (.ptr r p 0)):=rfl;rw[b,JU,DF];have h1:Nat.blt i m=true:=by rw[Wg];exact h
 have h2:Nat.add 0 (Nat.mul i 3)=i*3:=JZ _;rw[h1,h2];rfl
def A61{tl:Is}(hi:i<ps.length):(ps.flatMap pvC++tl).drop (i*3)=pvC ps[i]++((ps.drop (i+1)).flatMap pvC++tl):=by
 have b:ps=ps.take i++ps[i]::ps.drop (i+1):=by rw[<-rV hi,l38]
 conv=>lhs;rw[b]
 have c:((ps.take i).flatMap pvC).length=i*3:=by rw[C0f,E!];congr 1;omega
 rw[l2l,eI,<-c,List.drop_left,nM,eI]
def B35.len(h:B35 H v ps):Ba AT v F=F (I ps.length):=by
 rcases h with⟨rfl,rfl⟩|rfl|⟨_,_,_,rfl,_⟩<;>exact r_ rfl
def B35.cs(h:B35 H v ps)(hi:i<ps.length):(D4 AT v (I i) λu=>CI 2 u λw=>AE Am w H F)=F ps[i].2.2:=by
 rcases h with⟨rfl,rfl⟩|rfl|⟨r,q,b,rfl,h⟩
 ·simp at hi
 ·rw[Z5 (f:=pvC) rfl (λ_=>rfl) hi];exact r_ rfl
 ·rw[B7u hi,fA];have e:AE Am (.ptr r (i*3+2) 0) H F=IP H r λx=>Kb x λ_ cs=>hdK (Dn (Nat.add (i*3+2) 0) cs) F:=r_ rfl;rw[e,Bl h];show hdK (Dn (i*3+2+0) (ps.flatMap pvC++b)) F=_;rw[Nat.add_zero,CA,<-l1a,A61 hi];exact r_ rfl
def PksAt.len(h:PksAt H v ws):Ba AT v F=F (I ws.length):=by
 obtain⟨ps,rfl,h2,b⟩:=h.at_;rw[b.len,QK]
def PksAt.cs(h:PksAt H v ws)(hi:i<ws.length):∃cv,Yt H cv ws[i].cs/\∀F:K2,(D4 AT v (I i) λu=>CI 2 u λw=>AE Am w H F)=F cv:=by
 obtain⟨ps,rfl,h2,b⟩:=h.at_;rw[QK]at hi;have c:=h2 _ (Ql hi);refine⟨ps[i].2.2,?_,λF=>b.cs hi⟩;rw[l2n];exact c.cs
end
end
section
variable{H H':Hp}{A:ed}{r m:Nat}{y:AV}{p:Pk}
def StAt.lat(h:StAt H r m A)(c:StAt H' r m A)(k:Lat H H' (λu=>u=m)):Lat H H' (λ_=>False):=
 ⟨k.wf,k.nx,λw u y b _=>by
  by_cases e:u=m
  ·subst e;rw[h.mm]at b;rw[<-b];exact c.mm
  ·exact k.keep w u y b e⟩
def A1y(c:p.Right)(b:p.kd=2):NQ A p=(A,A05 A p.ds):=by
 unfold NQ;rw[Dv c,CL (by omega),Dv b]
end

def lX:Ha:=[131,104,90,156,194,33,46,235,120,196,11,153,229,79,30,59,146,4,139,217,16,139,18,15,47,76,188,190,151,16,182,131]
def Oc:Cd:=.co ⟨⟨1,2,1,0,0⟩, -80,0,[(1, -5),(2, -5),(3, -5),(4, -8),(5, -8)]⟩ ⟨1,[3],.no⟩ [lA] none
def B07:cdM 1 0 1 0 0 0 3 3 3 0 0 0 none [lA]=Oc:=by kernel_rfl
def lR:Oc.id=lX:=by kernel_rfl
def Ws:Oc.ps=[lA]:=by kernel_rfl
def lT:iJ.ps=[]:=rfl
def A3Z:Oc.Ok:=B07▸A5h (by simp[lA])
def rM:iJ.Ok:=B08▸A5h (by simp)
def gX:ed:=[Oc,iJ]
def fW:gX.map Cd.id=[lX,lA]:=by simp[gX,lR,eX]
def lU:[Oc].map Cd.id=[lX]:=by simp[lR]
def C4e:gE gX=[(lX,Oc),(lA,iJ)]:=by simp[gE,gX,lR,eX]
def XZ:GOk gX:=by
 refine⟨λc hc=>?_,λc hc=>?_,by rw[fW];decide,by decide⟩
 ·simp only[gX,Vp,List.not_mem_nil,or_false]at hc;rcases hc with rfl|rfl
  ·exact A3Z
  ·exact rM
 ·simp only[gX,Vp,List.not_mem_nil,or_false]at hc;rcases hc with rfl|rfl
  ·rw[Ws];decide
  ·rw[lT];decide
def B6R:StIn gX [Oc]:=⟨λc hc=>by rw[XY]at hc;rw[hc];simp[gX],by rw[lU];decide⟩
def C1B:Cmp gX iJ.id:=.mk (by simp[gX]) (by rw[lT];simp)
def C4I:Cmp gX Oc.id:=.mk (by simp[gX]) (by rw[Ws];intro p a;rw[XY]at a;rw[a,<-eX];exact C1B)
def B2C:Hd gX=gX:=List.filter_eq_self.2 λc hc=>@decide_eq_true _ (_) (by
 simp only[gX,Vp,List.not_mem_nil,or_false]at hc;rcases hc with rfl|rfl
 ·exact C4I
 ·exact C1B)
def B76:¬Cmp [Oc] Oc.id:=λh=>by
 have h2:=Cmp.par B6R.nd (by simp) h lA (by rw[Ws];simp);have:=h2.ids;rw[lU]at this;exact absurd this (by decide)
def C1z:Hd [Oc]=[]:=List.filter_eq_nil_iff.2 λc hc=>by
 rw[XY]at hc;rw[hc,@decide_eq_true_iff _ (_)];exact B76
def B5G:J1 (Hd gX)=[lX]:=by
 rw[B2C,J1,fW];have:([lX,lA].filter λx=>decide (∀c∈gX,x∉c.ps))=[lX]:=by
  have h1:decide (∀c∈gX,lX∉c.ps)=true:=Hu λc hc=>by
   simp only[gX,Vp,List.not_mem_nil,or_false]at hc;rcases hc with rfl|rfl
   ·rw[Ws];decide
   ·rw[lT];simp
  have h2:decide (∀c∈gX,lA∉c.ps)=false:=Ir λh=>by
   have:=h Oc (by simp[gX]);rw[Ws]at this;simp at this
  rw[l2m,h1,l2m,h2];rfl
 rw[this];rfl
def B5n:J0 [Oc]=[lA]:=by
 unfold J0;rw[lU,show[Oc].flatMap Cd.ps=[lA] by simp[Ws]];decide
def B5o:J0 gX=[]:=by
 unfold J0;rw[fW,show gX.flatMap Cd.ps=[lA] by simp[gX,Ws,lT]];decide
def C2m:eQ [] [lX]=[⟨2,[lX],[]⟩]:=by
 have:xO [] [lX]=[lX]:=by decide
 unfold eQ;rw[this];rfl
def C2l:eQ [Oc] []=[⟨2,[lA],[]⟩]:=by
 have:xO [Oc] []=[lA]:=by unfold xO;rw[B5n];decide
 unfold eQ;rw[this];rfl
def B6H:eQ gX []=[]:=by
 have:xO gX []=[]:=by unfold xO;rw[B5o];decide
 unfold eQ;rw[this];rfl
def C47:A05 gX [lX]=[⟨3,[],[.c Oc]⟩]:=by
 have:gvn gX [lX]=[Oc]:=by
  unfold gvn;rw[fW,C4e];rfl
 unfold A05;rw[this];rfl
def C46:A05 gX [lA]=[⟨3,[],[.c iJ]⟩]:=by
 have:gvn gX [lA]=[iJ]:=by
  unfold gvn;rw[fW,C4e];rfl
 unfold A05;rw[this];rfl
def C1R:L3 [Oc]=[]:=by unfold L3;rw[C1z];rfl
def B3y:NN [Oc]=[lX]:=by
 have:([Oc].map Cd.id).filter (λx=>@decide (¬Cmp [Oc] x) (Classical.propDecidable _))=[Oc].map Cd.id:=List.filter_eq_self.2 λx a=>@decide_eq_true _ (_) (by
  rw[lU,XY]at a;rw[a,<-lR];exact B76)
 unfold NN;rw[this,lU];rfl
def B3z:NN gX=[]:=by
 have:(gX.map Cd.id).filter (λx=>@decide (¬Cmp gX x) (Classical.propDecidable _))=[]:=List.filter_eq_nil_iff.2 λx a=>by
  rw[@decide_eq_true_iff _ (_)];rw[fW]at a;simp only[Vp,List.not_mem_nil,or_false]at a;rcases a with rfl|rfl
  ·rw[<-lR];exact λh=>h C4I
  ·rw[<-eX];exact λh=>h C1B
 unfold NN;rw[this];rfl
def C0O:(L3 gX).map Cd.id=[lA,lX]:=by
 rw[T9 XZ.ids,B2C]
 kernel_rfl
def B5d:VE 3 0 gX=gX:=by
 have h:A2V 3 0=true:=by decide
 have h1:A2V 3 1=true:=by decide
 unfold gX;rw[SK,h,Dv rfl,SK,h1,Dv rfl];rfl
def rX(q:Pk)(h1:q.ds.length<=64)(h2:q.cs.length<=64)(a:∀s∈q.ds,s.length=32)(b:(q.cs=[]/\(q.kd=1\/q.kd=2))\/(q.ds=[]/\q.kd=3)):q.Right:=⟨h1,h2,a,b⟩
def C33:NQ [] ⟨1,[lX],[]⟩=([],[⟨2,[lX],[]⟩]):=by
 unfold NQ;rw[Dv (rX _ (by decide) (by decide) (by decide) (.inl ⟨rfl,.inl rfl⟩)),Dv rfl];exact congrArg _ C2m
def B0j:NQ gX ⟨2,[lX],[]⟩=(gX,[⟨3,[],[.c Oc]⟩]):=by
 rw[A1y (rX _ (by decide) (by decide) (by decide) (.inl ⟨rfl,.inr rfl⟩)) rfl];exact congrArg _ C47
def B0i:NQ [] ⟨3,[],[.c Oc]⟩=([Oc],[⟨2,[lA],[]⟩]):=by
 unfold NQ;rw[Dv (rX _ (by decide) (by decide) (by simp) (.inr ⟨rfl,rfl⟩)),CL (by decide),CL (by decide)];have:XT [] [.c Oc]=[Oc]:=by
  show(if Oc.id∈[].map Cd.id then[] else[]++[Oc])=[Oc]
  rw[CL (by simp)];rfl
 rw[show(⟨3,[],[.c Oc]⟩:Pk).cs=[.c Oc] from rfl,this,CL (by decide),C2l]
def B0h:NQ gX ⟨2,[lA],[]⟩=(gX,[⟨3,[],[.c iJ]⟩]):=by
 rw[A1y (rX _ (by decide) (by decide) (by decide) (.inl ⟨rfl,.inr rfl⟩)) rfl];exact congrArg _ C46
def B0g:NQ [Oc] ⟨3,[],[.c iJ]⟩=(gX,[]):=by
 unfold NQ;rw[Dv (rX _ (by decide) (by decide) (by simp) (.inr ⟨rfl,rfl⟩)),CL (by decide),CL (by decide)];have:XT [Oc] [.c iJ]=gX:=by
  show(if iJ.id∈[Oc].map Cd.id then[Oc] else[Oc]++[iJ])=gX;rw[CL (by rw[lU,eX];decide)];rfl
 rw[show(⟨3,[],[.c iJ]⟩:Pk).cs=[.c iJ] from rfl,this,CL (by decide),B6H]
def C32:NQ gX ⟨1,[lX],[]⟩=(gX,[]):=by
 unfold NQ;rw[Dv (rX _ (by decide) (by decide) (by decide) (.inl ⟨rfl,.inl rfl⟩)),Dv rfl];have:([lX].filter λx=>decide (x∉gX.map Cd.id))=[]:=by rw[fW];decide
 rw[show(⟨1,[lX],[]⟩:Pk).ds=[lX] from rfl,this,B6H]
section
set_option maxHeartbeats 100000000
variable{cv:AV}
variable{L n:Nat}
def RB(R:Rt)(f:Nat)(args:Is)(v:AV):Prop:=∀b,(R.call f args [] λv a=>HU b a depth v λ_ c=>some (c,[]))=some (v,[])
def Sb{R:Rt}{f:Nat}{args args':Is}{v:AV}{H:Hp}{q:Bool}{K:K2}(hc:RB R f args' v)(a:RZ true depth args args' H q):Ap R f args H K=K v:=by
 unfold Ap;rw[a,hc (!q)];rfl
abbrev z6:AV:=.agg [I 0,I 0,I 0,I 0,I 0,I 0]
def m_A(d:40000<L):CT (r! L (n+44)) IA [z6,z6,Aw,Aw] (.agg iJ.cs):=by
 intro K c;have a:Kv 0:=⟨by decide,by decide⟩
 refine uA (n:=n) (y:=none) (l:=[]) d Ft a a a a a a a a a a a a (λb _=>⟨false,C7⟩) trivial (.inl (.inr ⟨rfl,rfl⟩)) (by decide) (by simp) ?_;rw[B08];intro v b sv nv e kp fr;have⟨q,hq⟩:=A0n (D:=depth-2) sv nv;exact c _ _ ⟨q,L0 (D:=depth-1) hq⟩
def m_X(f:40000<L):CT (r! L (n+44)) IA [.agg [I 1,I 0,I 1,I 0,I 0,I 0],.agg [I 3,I 3,I 3,I 0,I 0,I 0],Aw,Di [lA]] (.agg Oc.cs):=by
 intro K e;have a:Kv 0:=⟨by decide,by decide⟩
 have c:Kv 1:=⟨by decide,by decide⟩
 have b:Kv 3:=⟨by decide,by decide⟩
 refine uA (n:=n) (y:=none) (l:=[lA]) f Ft c a c a a a b b b a a a (λd _=>⟨false,C7⟩) trivial (.inl (Lo [lA])) (by decide) (by simp[lA]) ?_;rw[B07];intro v d sv nv g kp fr;have⟨q,hq⟩:=A0n (D:=depth-2) sv nv;exact e _ _ ⟨q,L0 (D:=depth-1) hq⟩
abbrev l0A:AV:=.list 0 []
def nl(cv:AV):Prop:=cv=Aw\/cv=l0A
def s_h:RB (r! L (n+10)) Dc [.agg [I 1,Di [lX],Aw],.agg [I 1,Di [lX],Aw]] (Bo true):=by intro b;cases b<;>kernel_rfl
def s_1(h:nl cv):RB (r! L (n+10)) Dc [.agg [I 2,Di [lX],cv],.agg [I 2,Di [lX],Aw]] (Bo true):=by
 intro b;rcases h with rfl|rfl<;>cases b<;>kernel_rfl
def s_3(h:nl cv):RB (r! L (n+10)) Dc [.agg [I 2,Di [lA],cv],.agg [I 2,Di [lA],Aw]] (Bo true):=by
 intro b;rcases h with rfl|rfl<;>cases b<;>kernel_rfl
def s_n(h:nl cv):RB (r! L (n+10)) Dc [.agg [I 1,Di [lX],Aw],.agg [I 2,Di [lX],cv]] (Bo false):=by
 intro b;rcases h with rfl|rfl<;>cases b<;>kernel_rfl
def s_2{a:AV}(h:nl a):RB (r! L (n+64)) Dc [.agg [I 3,a,.list 1 Oc.cs],.agg [I 3,Aw,.list 1 Oc.cs]] (Bo true):=by
 intro b;rcases h with rfl|rfl<;>cases b<;>kernel_rfl
def C5C:RB (r! L (n+10)) Dw [Di [lX],Di [lX]] (Bo true):=by intro b;cases b<;>kernel_rfl
def C5B:RB (r! L (n+10)) Dw [Di [lA,lX],Di [lA,lX]] (Bo true):=by intro b;cases b<;>kernel_rfl
end
section
set_option maxHeartbeats 100000000
variable{cv dv:AV}
section
variable{H H':Hp}{v:AV}{r b nr pq r1 m1 m2:Nat}{ws:List Pk}
structure Sn(b nr pq r1 m1 m2:Nat)(H:Hp):Prop where
 wf:Wf H
 cb:Ah H b=some (c_ Ab Oc.cs)
 nm:∃q,Ah H nr=some (.cells q Au [S lA,S lX])
 pk:Ah H pq=some (c_ A5 [I 1,Di [lX],Aw])
 sx:StAt H r1 m1 gX
 ne:b≠m2/\nr≠m2/\pq≠m2/\r1≠m2/\m1≠m2
def Sn.kp(h:Sn b nr pq r1 m1 m2 H)(k:Lat H H' (λu=>u=m2)):Sn b nr pq r1 m1 m2 H':=by
 have⟨w,h1,⟨q,h2⟩,i,g,a,c,d,e,f⟩:=h;exact⟨k.wf w,k.keep w _ _ h1 a,⟨q,k.keep w _ _ h2 c⟩,k.keep w _ _ i d,⟨k.keep w _ _ g.st e,k.keep w _ _ g.mm f⟩,a,c,d,e,f⟩
def Lat.no(k:Lat H H' (λ_=>False)):Lat H H' (λu=>u=m2):=⟨k.wf,k.nx,λw u y a _=>k.keep w u y a id⟩
def PksAt.ptr(h:PksAt H v ws){i:Nat}(hi:i<ws.length):∃p w,(∀F:K2,D4 AT v (I i) F=F p)/\PkS H w ws[i]/\∀H',(∀u y,A8 v u->Ah H u=some y->Ah H' u=some y)->∀F:K2,AE AI p H' F=F w:=by
 obtain⟨ps,rfl,h2,j⟩:=h.at_;rw[QK]at hi;have a:=h2 _ (Ql hi);have g:PkS H (.agg (pvC ps[i])) (ps.map Prod.fst)[i]:=⟨ps[i].2.1,ps[i].2.2,by rw[l2n];rfl,by rw[l2n];exact a.ds,by rw[l2n];exact a.cs,by rw[l2n];exact a.nl⟩
 rcases j with⟨rfl,rfl⟩|rfl|⟨r,q,s,rfl,d⟩
 ·simp at hi
 ·exact⟨.iptr (pvC ps[i]),_,λF=>Z5 (f:=pvC) rfl (λ_=>rfl) hi,g,λH' _ F=>r_ rfl⟩
 ·refine⟨.ptr r (i*3) 0,_,λF=>B7u hi,g,λH' k F=>?_⟩;have h:=k r _ ⟨_,_,_,rfl⟩ d;have e:AE AI (.ptr r (i*3) 0) H' F=IP H' r λx=>Kb x λ_ cs=>E9 3 (Dn (Nat.add (i*3) 0) cs) λc=>F (.agg c):=r_ rfl;rw[e,Bl h];show E9 3 (Dn (i*3+0) (ps.flatMap pvC++s)) (λc=>F (.agg c))=_;rw[Nat.add_zero,CA,A61 hi];exact r_ rfl
def PkS.fx{q:Pk}(h:PkS H v q):∃dv cv f,SA q.ds dv/\Yt [] cv q.cs/\Fx true depth v (.agg [I q.kd,dv,cv]) H f:=by
 obtain⟨dv,cv,rfl,h1,h2,_⟩:=h.at_;obtain⟨d,q1,g,f1⟩:∃a e,SA q.ds a/\Fx true 11 dv a H e:=by
  rcases h1 with h|h
  ·refine⟨dv,false,h,?_⟩;rcases h with rfl|⟨_,rfl⟩<;>exact λK=>rfl
  ·exact h.fx (D:=10)
 have⟨c,q2,i,f2⟩:=h2.fx (D:=10);exact⟨d,c,_,g,i,L0 (D:=11) (Al (q:=false) C7 (Al f1 (Al f2 AD)))⟩
def C1F(h:Yt [] cv []):nl cv:=by
 rcases h with⟨rfl,_⟩|rfl|⟨_,_,_,_,h⟩
 ·exact .inl rfl
 ·exact .inr rfl
 ·simp[Ah]at h
def C4O{d:Cd}(h:Yt [] cv [.c d]):cv=.list 1 d.cs:=by
 rcases h with⟨_,h⟩|rfl|⟨_,_,_,_,h⟩
 ·cases h
 ·show AV.list 1 (d.cs++[])=_;rw[Vq]
 ·simp[Ah]at h
def C2U(h:SA [] dv):nl dv:=by
 rcases h with rfl|⟨_,rfl⟩
 ·exact .inr rfl
 ·exact .inl rfl
def C2V{a:AN}{l:List AN}(h:SA (a::l) dv):dv=Di (a::l):=by
 rcases h with rfl|⟨h,_⟩
 ·rfl
 ·cases h
end
end
section
set_option maxHeartbeats 100000000
variable{L n:Nat}
def B0a(J:200000<L):CS (r! L (n+85)) RH [] (Bo true):=by
 intro K hK;have x:40000<L:=by omega
 have c1:∀{H K},Ap (r! L (n+84)) IA [z6,z6,(.v (.slice none 0 0)),(.v (.slice none 0 0))] H K=K (.agg iJ.cs):=λ{H K}=>Iw (m_A (n:=n+40) x) (Al (q:=false) (λK=>by kernel_rfl) (Al (q:=false) (λK=>by kernel_rfl) (Al (q:=false) C7 (Al (q:=false) C7 AD))));have c2:∀{H K},Ap (r! L (n+84)) IA [.agg [I 1,I 0,I 1,I 0,I 0,I 0],.agg [I 3,I 3,I 3,I 0,I 0,I 0],(.v (.slice none 0 0)),Di [lA]] H K=K (.agg Oc.cs):=λ{H K}=>Iw (m_X (n:=n+40) x) (Al (q:=false) (λK=>by kernel_rfl) (Al (q:=false) (λK=>by kernel_rfl) (Al (q:=false) C7 (Al ((Lo _).fx H) AD))));have cw:∀{H K},Ap (r! L (n+84)) GY [.agg iJ.cs] H K=K (S lA):=λ{H K}=>by
  rw[<-eX];exact AO (A5f (n:=n+20) x rM (show([]:List Ha).Nodup by decide)) (wT H)
 have b0:∀{K:K2},Cb BB [] K=K z6:=λ{K}=>r_ rfl;have b1:∀{K:K2},Cb BB [(0,1,(AV.v (.int .i64 1))),(1,1,(AV.v (.int .i64 0))),(2,1,(AV.v (.int .i64 1))),(3,1,(AV.v (.int .i64 0))),(4,1,(AV.v (.int .i64 0))),(5,1,(AV.v (.int .i64 0)))] K=K (.agg [I 1,I 0,I 1,I 0,I 0,I 0]):=λ{K}=>r_ rfl;have b3:∀{K:K2},Cb BB [(0,1,(AV.v (.int .i64 3))),(1,1,(AV.v (.int .i64 3))),(2,1,(AV.v (.int .i64 3))),(3,1,(AV.v (.int .i64 0))),(4,1,(AV.v (.int .i64 0))),(5,1,(AV.v (.int .i64 0)))] K=K (.agg [I 3,I 3,I 3,I 0,I 0,I 0]):=λ{K}=>r_ rfl;have cf:∀{a:Ha}{K:K2},Z6 1 Ai 1 [(0,1,S a)] K=K (Di [a]):=λ{a K}=>by kernel_rfl
 have cg:∀{K:K2},Z6 68 Ae 2 [(0,68,.agg Oc.cs),(68,68,.agg iJ.cs)] K=K (.list 2 (gX.flatMap Cd.cs)):=λ{K}=>by kernel_rfl
 have ci:∀{K:K2},Z6 68 Ae 2 [(0,68,.agg iJ.cs),(68,68,.agg Oc.cs)] K=K (.list 2 ([PC.c iJ,PC.c Oc].flatMap PC.cells)):=λ{K}=>by kernel_rfl
 have cj:∀{K:K2},Z6 68 Ae 1 [(0,68,.agg Oc.cs)] K=K (.list 1 Oc.cs):=λ{K}=>by kernel_rfl
 rw[vG];unfold Xq OV D5 Fg A4 Ks FW;obtain⟨H1,e1,ad,w1, -⟩:=GC (e:=Ab) (zs:=BI) (vs:=iJ.cs) Ft CY;rw[b0,b0,c1,Bv (cs:=BI) rfl,BO (cs:=BI) (vs:=iJ.cs) (Ay (by simp)) CY rfl Ja,<-e1];generalize Ar []=a at ad;rw[b1,b3,Bu rfl CY.symm ad,cw,cf,c2];have⟨H2,e2,V,w2,k2⟩:=GC (e:=Ab) (zs:=BI) (vs:=Oc.cs) w1 CY;rw[Bv (cs:=BI) rfl,BO (cs:=BI) (vs:=Oc.cs) (Ay (by simp)) CY rfl Ja,<-e2];have a3:=(k2 _ _ ad).1;generalize Ar H1=b at V;clear e1 e2 k2 ad w1;rw[Bu rfl CY.symm V,Bu rfl CY.symm a3,cg];refine hY (n:=n+17) x XZ (z:=3) ⟨by decide,by decide⟩ (.inl rfl) w2 λr1 m1 g s3 d9 l3=>?_;rw[B5d]at s3;rw[Fm,Pq,B6L (n:=n+83)];have w3:=l3.wf w2;have⟨t4,w4,k4⟩:=B1c w3;have n4:Ar ((Ar g+1,c_ D6 [.mp (Ar g)])::(Ar g,.map false [] none)::g)=Ar g+2:=rfl;have ay:∀u y,Ah H2 u=some y->Ah ((Ar g+1,c_ D6 [.mp (Ar g)])::(Ar g,.map false [] none)::g) u=some y:=λu y M=>k4 u y (l3.keep w2 u y M id);have a4:=ay _ _ a3;have X:=ay _ _ V;have s4:=s3.keep k4;have lb:=w2.lt V;have lr:=w3.lt s3.st;have lm:=w3.lt s3.mm;have de:=l3.nx;generalize ((Ar g+1,c_ D6 [.mp (Ar g)])::(Ar g,.map false [] none)::g:Hp)=H4 at t4 w4 n4 a4 X s4;have da:Ar g+1≠Ar g:=by omega
 generalize ea:Ar g=m2 at t4 n4 lr lm de da;generalize m2+1=r2 at t4;have pC:∀{K},AE Ac (.ptr b 31 0) H4 K=K (Di [lA]):=λ{K}=>AL (p:=31) rfl X (show 31<68 by decide);have df:∀{a:Ha}{K:K2},Ba Ac (Di [a]) K=K (.v (.int .i64 1)):=λ{a K}=>r_ rfl;have R:∀{K:K2},Aq Ad .neq (.v (.int .i64 1)) (.v (.int .i64 1)) K=K (Bo false):=λ{K}=>by kernel_rfl
 have un:∀{q:Bool}{K:K2},MJ .not (Bo q) K=K (Bo (!q)):=λ{q K}=>DK;have dr:∀{F:K2},RN BP CZ .eql (.ptr r1 0 0) (.v (.pointer none)) F=F (Bo false):=λ{F}=>s4.sv.nn;have dt:∀{F:K2},RN BP CZ .eql (.ptr r2 0 0) (.v (.pointer none)) F=F (Bo false):=λ{F}=>t4.sv.nn;simp only[un,Bool.not_true,dr,dt,Wh,pC,df,R,gT,F!,dY,BK,SJ,QA];rw[AY,Bu rfl CY.symm a4,Bu rfl CY.symm X,ci];refine C2w (n:=n+19) (l:=[PC.c iJ,PC.c Oc]) (λp hp=>?_) (by decide) x (.inr (.inl rfl)) w4 λd4 H5 j d6=>?_
 ·simp only[Vp,List.not_mem_nil,or_false]at hp;rcases hp with rfl|rfl
  ·exact⟨rM,by rw[lT];decide⟩
  ·exact⟨A3Z,by rw[Ws];decide⟩
 have cz:[PC.c iJ,PC.c Oc].map PC.id=[lA,lX]:=by
  show[iJ.id,Oc.id]=_;rw[eX,lR]
 rw[cz]at j;have w5:=j.wf;have af:=j.new;have du:=j.nx;have k5:=j.keep;rcases j.sl with⟨_,h,_⟩|⟨nr,q5,N,be,_⟩
 ·cases h
 have N:d4=.sl 1 nr 0 2:=N;subst N;have d8:Ar H4<=nr:=af nr ⟨_,_,_,rfl⟩;rw[B3Q (n:=n+1) XZ J (s4.keep k5).sv,B5G];have⟨H6,e6,a5,w6,k6⟩:=GC (e:=A5) (zs:=[I 0,Aw,Aw]) (vs:=[I 1,Di [lX],Aw]) w5 rfl;rw[Bv (cs:=[I 0,Aw,Aw]) rfl,BO (cs:=[I 0,Aw,Aw]) (vs:=[I 1,Di [lX],Aw]) (Ay (by simp)) rfl rfl rfl,<-e6];have Q:∀u y,Ah H5 u=some y->Ah H6 u=some y:=λu y M=>(k6 u y M).1;have eb:Ar H5≠m2:=by omega
 have ae:Sn b nr (Ar H5) r1 m1 m2 H6:=⟨w6,Q _ _ (k5 _ _ X),⟨q5,Q _ _ be⟩,a5,(s4.keep k5).keep Q,by omega,by omega,by omega,by omega,by omega⟩
 have t6:=(t4.keep k5).keep Q;generalize Ar H5=pq at ae a5;clear e6 k6 Q w6 a5 be w5 af du k5 s4 t4 a4 X w4 n4 ay k4 w3 s3 l3 a3 V w2 j d6;have hh:∀{H:Hp},PkS H (.agg [I 1,Di [lX],Aw]) ⟨1,[lX],[]⟩:=λ{H}=>⟨_,_,rfl,.inl (Lo _),.inl ⟨rfl,rfl⟩,λh=>by cases h⟩
 have gN:GOk []:=⟨by simp,by simp,List.nodup_nil,by decide⟩
 have gS:=B6R.ok XZ;have rh:Pk.Right ⟨1,[lX],[]⟩:=rX _ (by decide) (by decide) (by decide) (.inl ⟨rfl,.inl rfl⟩);rw[Bu rfl rfl ae.pk];refine A5L (PP:=λa=>a=_) (n:=n) (A:=[]) (q:=⟨1,[lX],[]⟩) J gN rh rfl ae.wf t6 hh (by decide) λH7 t7 l7=>?_;rw[C33];show(_:Af)=_;have d:=ae.kp l7;have f1:∀{H:Hp},Fx true depth (.agg [I 1,Di [lX],Aw]) (.agg [I 1,Di [lX],Aw]) H false:=λ{H}K=>by kernel_rfl
 have f2:∀{H:Hp},Fx true depth (.agg [I 2,Di [lX],Aw]) (.agg [I 2,Di [lX],Aw]) H false:=λ{H}K=>by kernel_rfl
 have fS:∀{H:Hp}{D:Nat},(∃q,Ah H nr=some (.cells q Au [S lA,S lX]))->Fx true (D+1) (.sl 1 nr 1 1) (Di [lX]) H true:=λ{H D} ⟨q,h⟩=>XF (q':=false) h (by decide) (VT [lX]);have fT:∀{H:Hp}{D:Nat},(∃q,Ah H nr=some (.cells q Au [S lA,S lX]))->Fx true (D+1) (.sl 1 nr 0 1) (Di [lA]) H true:=λ{H D} ⟨q,h⟩=>XF (q':=false) h (by decide) (VT [lA]);have fU:∀{H:Hp}{D:Nat},(∃q,Ah H nr=some (.cells q Au [S lA,S lX]))->Fx true (D+1) (.sl 1 nr 0 2) (Di [lA,lX]) H true:=λ{H D} ⟨q,h⟩=>XF (q':=false) h (by decide) (VT [lA,lX]);have fP:∀{H:Hp}{z:Int}{v w:AV},Fx true 11 v w H true->Fx true depth (.agg [I z,v,Aw]) (.agg [I z,w,Aw]) H true:=λ{H z v w}h=>L0 (D:=11) (Al (q:=false) C7 (Al (q:=true) (q':=false) h (Al (q:=false) C7 AD)));have bq:∀{K:K2},D3 Ac (.sl 1 nr 0 2) (some (.v (.int .i64 1))) none none K=K (.sl 1 nr 1 1):=λ{K}=>ZV (i:=1) (m:=2) (by decide);have dx:∀{K:K2},D3 Ac (.sl 1 nr 0 2) none (some (.v (.int .i64 1))) none K=K (.sl 1 nr 0 1):=λ{K}=>VY (i:=1) (m:=2) (by decide);have cm:∀{K:K2},Cb AI [(0,1,(AV.v (.int .i64 1))),(1,1,.sl 1 nr 1 1)] K=K (.agg [I 1,.sl 1 nr 1 1,Aw]):=λ{K}=>by kernel_rfl
 have cp:∀{K:K2},Cb AI [(0,1,(AV.v (.int .i64 2))),(1,1,.sl 1 nr 1 1)] K=K (.agg [I 2,.sl 1 nr 1 1,Aw]):=λ{K}=>by kernel_rfl
 have cq:∀{K:K2},Cb AI [(0,1,(AV.v (.int .i64 2))),(1,1,.sl 1 nr 0 1)] K=K (.agg [I 2,.sl 1 nr 0 1,Aw]):=λ{K}=>by kernel_rfl
 have cu:∀{K:K2},Cb AI [(0,1,(AV.v (.int .i64 3))),(2,1,.list 1 Oc.cs)] K=K (.agg [I 3,Aw,.list 1 Oc.cs]):=λ{K}=>by kernel_rfl
 have d7:∀{K:K2},AE AI (.ptr pq 0 0) H7 K=K (.agg [I 1,Di [lX],Aw]):=λ{K}=>Bu rfl rfl d.pk;have a7:∀{K:K2},Ap (r! L (n+84)) Dc [.agg [I 1,Di [lX],Aw],.agg [I 1,.sl 1 nr 1 1,Aw]] H7 K=K (Bo true):=λ{K}=>Sb (s_h (n:=n+74)) (Al f1 (Al (fP (fS d.nm)) AD));have c7:∀{K:K2},Ap (r! L (n+84)) Dc [.agg [I 2,Di [lX],Aw],.agg [I 2,.sl 1 nr 1 1,Aw]] H7 K=K (Bo true):=λ{K}=>Sb (s_1 (n:=n+74) (.inl rfl)) (Al f2 (Al (fP (fS d.nm)) AD));have dm:∀{K:K2},Ba AT (yC [⟨2,[lX],[]⟩]) K=K (.v (.int .i64 1)):=λ{K}=>r_ rfl;have bf:∀{K:K2},D4 AT (yC [⟨2,[lX],[]⟩]) (.v (.int .i64 0)) K=K (.iptr [I 2,Di [lX],Aw]):=λ{K}=>by kernel_rfl
 have bh:∀{H:Hp}{K:K2},AE AI (.iptr [I 2,Di [lX],Aw]) H K=K (.agg [I 2,Di [lX],Aw]):=λ{H K}=>r_ rfl;simp only[B1,d7,bq,cm,a7,un,Bool.not_true,gT,F!,dY,BK,dm,R,SJ,QA,bf,bh,cp,c7];rw[AY];have h2:PkS H7 (.agg [I 2,Di [lX],Aw]) ⟨2,[lX],[]⟩:=⟨_,_,rfl,.inl (Lo _),.inl ⟨rfl,rfl⟩,λh=>by cases h⟩
 refine ZH (n:=n) (A:=gX) (q:=⟨2,[lX],[]⟩) J XZ (by simp) d.wf d.sx h2 (by decide) (λh=>by cases h) (by decide) (by rw[B0j];exact XZ) (by rw[B0j];decide) λb5 H8 s8 p8 l8=>?_;rw[B0j]at s8 p8;have l8:=d.sx.lat s8 l8;have a6:=d.kp l8.no;have t8:=t7.kp l8 d.wf;have⟨bn,w8,ap,aa,ar⟩:=p8.ptr (i:=0) (by decide);have ap:∀F:K2,D4 AT b5 (.v (.int .i64 0)) F=F bn:=ap;have aa:PkS H8 w8 ⟨3,[],[.c Oc]⟩:=aa;have ar:∀F:K2,AE AI bn H8 F=F w8:=ar H8 λu y _ M=>M;have dh:∀F:K2,Ba AT b5 F=F (.v (.int .i64 1)):=λF=>p8.len;have b8:∀{K:K2},AE Ae (.ptr b 0 0) H8 K=K (.agg Oc.cs):=λ{K}=>Bu rfl CY.symm a6.cb;have a8:∀{K:K2},Ap (r! L (n+84)) Dc [w8,.agg [I 3,Aw,.list 1 Oc.cs]] H8 K=K (Bo true):=λ{K}=>by
  have⟨dv,cv,qq,sd,sc,fw⟩:=aa.fx;rw[C4O sc]at fw;exact Sb (s_2 (n:=n+20) (C2U sd)) (Al fw (Al (q:=false) (L0 (D:=11) (Al (q:=false) C7 (Al (q:=false) C7 (Al (q:=false) OW AD)))) AD))
 simp only[dh,R,B1,gT,F!,dY,BK,SJ,QA,ap,ar,b8,cj,cu,a8,un,Bool.not_true];rw[AY];refine ZH (n:=n) (A:=[]) (q:=⟨3,[],[.c Oc]⟩) J gN (λp hp=>by
  rw[XY]at hp;rw[hp];exact⟨A3Z,by rw[Ws];decide⟩) a6.wf t8 aa (by decide) (λh=>by cases h) (by decide) (by rw[B0i];exact gS) (by rw[B0i];decide) λaj H9 t9 p9 l9=>?_
 rw[B0i]at t9 p9;have k:=a6.kp l9;have⟨bo,w9,aq,ab,ax⟩:=p9.ptr (i:=0) (by decide);have aq:∀F:K2,D4 AT aj (.v (.int .i64 0)) F=F bo:=aq;have ab:PkS H9 w9 ⟨2,[lA],[]⟩:=ab;have ax:∀F:K2,AE AI bo H9 F=F w9:=ax H9 λu y _ M=>M;have dj:∀F:K2,Ba AT aj F=F (.v (.int .i64 1)):=λF=>p9.len;have ce:∀{K:K2},I3 (r! L (n+84)) Bt [.ptr r2 0 0] H9 K=K Aw:=λ{K}=>by rw[zT (n:=n+2) gS J t9.sv,C1R];rfl
 have d5:∀{K:K2},Ap (r! L (n+84)) Cm [.ptr r2 0 0] H9 K=K (Di [lX]):=λ{K}=>by
  rw[ZG (n:=n+1) gS J t9.sv];unfold MO;rw[CL (by simp),B3y];rfl
 have dn:∀{K:K2},Ba Am Aw K=K (.v (.int .i64 0)):=λ{K}=>r_ rfl;have Z:∀{K:K2},Aq Ad .eql (.v (.int .i64 0)) (.v (.int .i64 0)) K=K (Bo true):=λ{K}=>by kernel_rfl
 have dy:∀{K:K2},Ap (r! L (n+84)) Dw [Di [lX],.sl 1 nr 1 1] H9 K=K (Bo true):=λ{K}=>Sb (C5C (n:=n+74)) (Al ((Lo _).fx H9) (Al (fS (D:=11) k.nm) AD));have a9:∀{K:K2},Ap (r! L (n+84)) Dc [w9,.agg [I 2,.sl 1 nr 0 1,Aw]] H9 K=K (Bo true):=λ{K}=>by
  have⟨dv,cv,qq,sd,sc,fw⟩:=ab.fx;rw[C2V sd]at fw;exact Sb (s_3 (n:=n+74) (C1F sc)) (Al fw (Al (fP (fT k.nm)) AD))
 simp only[ce,dn,Z,d5,bq,dy,dj,R,B1,gT,F!,dY,BK,SJ,QA,aq,ax,dx,cq,a9,un,Bool.not_true];rw[AY];refine ZH (n:=n) (A:=gX) (q:=⟨2,[lA],[]⟩) J XZ (by simp) k.wf k.sx ab (by decide) (λh=>by cases h) (by decide) (by rw[B0h];exact XZ) (by rw[B0h];decide) λak am bp az ac=>?_;rw[B0h]at bp az;have ac:=k.sx.lat bp ac;have ah:=k.kp ac.no;have dz:=t9.kp ac k.wf;have⟨ag,b7,B,O,C⟩:=az.ptr (i:=0) (by decide);have B:∀F:K2,D4 AT ak (.v (.int .i64 0)) F=F ag:=B;have O:PkS am b7 ⟨3,[],[.c iJ]⟩:=O;have C:∀F:K2,AE AI ag am F=F b7:=C am λu y _ M=>M;have bj:∀F:K2,Ba AT ak F=F (.v (.int .i64 1)):=λF=>az.len;rw[bj,R,AY,B,C];refine ZH (n:=n) (A:=[Oc]) (q:=⟨3,[],[.c iJ]⟩) J gS (λp hp=>by
  rw[XY]at hp;rw[hp];exact⟨rM,by rw[lT];decide⟩) ah.wf dz O (by decide) (λh=>by cases h) (by decide) (by rw[B0g];exact XZ) (by rw[B0g];decide) λbv ao ba bm db=>?_
 rw[B0g]at ba bm;have Y:=ah.kp db;have bk:∀F:K2,Ba AT bv F=F (.v (.int .i64 0)):=λF=>bm.len;have ids:∀{F:KV},(∀v f,NewSl ao [lA,lX] v f->F v f=some (Bo true,[]))->Ei ((r! L (n+84)).call QN [.ptr r2 0 0] ao λv H=>some (v,H)) F=some (Bo true,[]):=λ{F}hF=>
  A9A (n:=n+1) (K:=λv H=>some (v,H)) (PP:=λa=>Ei a F=some (Bo true,[])) XZ J ba.sv Y.wf λv f j _=>by
   rw[C0O]at j;exact hF v f j
 simp only[bk,Z,B1,gT,F!,dY,BK,SJ,QA];refine ids λbx t j=>?_;have bg:Lat ao t (λ_=>False):=⟨λ_=>j.wf,j.nx,λ_ u y M _=>j.keep u y M⟩
 have r:=Y.kp bg.no;have bu:=ba.kp bg Y.wf;have bt:∀{K:K2},Ap (r! L (n+84)) Dw [bx,.sl 1 nr 0 2] t K=K (Bo true):=λ{K}=>by
  have⟨a,q,ha,hf⟩:=MB.fx (j.sat λh=>by cases h) (D:=11);rw[C2V ha]at hf;exact Sb (C5B (n:=n+74)) (Al hf (Al (fU (D:=11) r.nm) AD))
 have b9:∀{K:K2},Ap (r! L (n+84)) Cm [.ptr r2 0 0] t K=K (.list 0 []):=λ{K}=>by
  rw[ZG (n:=n+1) XZ J bu.sv];unfold MO;rw[CL (by simp[gX]),B3z];rfl
 have dq:∀{K:K2},Ba Ac (.list 0 []) K=K (.v (.int .i64 0)):=λ{K}=>r_ rfl;have cx:∀{K:K2},AE AI (.ptr pq 0 0) t K=K (.agg [I 1,Di [lX],Aw]):=λ{K}=>Bu rfl rfl r.pk;have dw:∀{F:KV},(∀f,StAt f r2 m2 gX->Lat t f (λu=>u=m2)->F Aw f=some (Bo true,[]))->Ei ((r! L (n+84)).call Cn [.ptr r2 0 0,.agg [I 1,Di [lX],Aw]] t λv H=>some (v,H)) F=some (Bo true,[]):=λ{F}hF=>
  A5L (n:=n) (A:=gX) (q:=⟨1,[lX],[]⟩) (K:=λv H=>some (v,H)) (PP:=λa=>Ei a F=some (Bo true,[])) J XZ rh rfl r.wf bu hh (by decide) λf s l=>by
   rw[C32];exact hF f s l
 simp only[bt,b9,dq,Z,cx,B1,gT,F!,dY,BK,SJ,QA];refine dw λbc d3 dc=>?_;have ai:=r.kp dc;have dp:∀{K:K2},Ba AT Aw K=K (.v (.int .i64 0)):=λ{K}=>r_ rfl;have bz:∀{K:K2},Cb Ae [] K=K (.agg BI):=λ{K}=>by kernel_rfl
 have put:∀{F:KV},(∀f,StAt f r2 m2 gX->Lat bc f (λu=>u=m2)->F (I 280) f=some (Bo true,[]))->Ei ((r! L (n+84)).call Fc [.ptr r2 0 0,.agg BI] bc λv H=>some (v,H)) F=some (Bo true,[]):=λ{F}hF=>
  A9u (n:=n+18) (p:=.z) (A:=gX) (K:=λv H=>some (v,H)) (P:=λa=>Ei a F=some (Bo true,[])) x trivial ai.wf d3 (by decide) λf s l=>hF f s l
 simp only[dp,Z,bz,B1,gT,F!,dY,BK,SJ,QA];refine put λbd ec dd=>?_;have bs:=ai.kp dd;have c0:∀{K:K2},Aq Ad .eql (I 280) (.v (.int .i64 280)) K=K (Bo true):=λ{K}=>by kernel_rfl
 have cy:∀{K:K2},AE AI (.ptr pq 0 0) bd K=K (.agg [I 1,Di [lX],Aw]):=λ{K}=>Bu rfl rfl bs.pk;have cc:∀{K:K2},Ap (r! L (n+84)) Dc [.agg [I 1,Di [lX],Aw],.agg [I 2,Di [lX],Aw]] bd K=K (Bo false):=λ{K}=>Sb (s_n (n:=n+74) (.inl rfl)) (Al f1 (Al f2 AD));simp only[c0,cy,bf,bh,cc,un,Bool.not_false,B1,gT,F!,dY,BK,SJ,QA];exact hK _ _ λb=>⟨false,C7⟩
end
def Kc(H H':Hp):Prop:=∀u q e cs,e≠A5->Ah H u=some (.cells q e cs)->Ah H' u=some (.cells q e cs)
section
variable{H H' H'':Hp}{v:AV}{r m:Nat}{ps:PV}
def Kc.refl:Kc H H:=λ_ _ _ _ _ h=>h
def Kc.trans(h:Kc H H')(k:Kc H' H''):Kc H H'':=λu q e cs he a=>k u q e cs he (h u q e cs he a)
def Kc.map{b:IH}{q:Bool}{o}(k:Lat H H' (λu=>u=m))(w:Wf H)(h:Ah H m=some (.map q b o)):Kc H H':=λu q e cs _ a=>k.keep w u _ a λc=>by
 rw[c,h]at a;cases a
structure Pls(H:Hp)(v:AV)(ps:PV):Prop where
 ok:∀p∈ps,PvOk H p
 at_:(v=Aw/\ps=[])\/∃r q tl,v=.sl 3 r 0 ps.length/\Ah H r=some (.cells q A5 (ps.flatMap pvC++tl))
end
section
variable{u:Nat}
section
variable{H:Hp}{v:AV}{r:Nat}{p1:PV}
def Pls.row(h:Pls H v p1)(b:A8 v u):∃q cs,Ah H u=some (.cells q A5 cs):=by
 rcases h.at_ with⟨rfl,_⟩|⟨r,q,d,rfl,c⟩
 ·exact absurd b (by simp[A8])
 ·have⟨_,_,_,a⟩:=b;injection a with _ a
  subst a;exact⟨q,_,c⟩
def Pls.lt(h:Pls H v p1)(w:Wf H)(b:A8 v u):u<Ar H:=by
 have⟨q,cs,a⟩:=h.row b;exact w.lt a
end
end

section
set_option maxHeartbeats 4000000
end
section
variable{L n:Nat}
section
variable{K:KV}
def B2K(a:200000<L):∀(H:Hp)(K:K2),Ap (r! L (n+86)) RH [] H K=K (Bo true):=λH K=>AO (B0a (n:=n+1) a) AD
end
end
section
variable{v:AV}{e e' m s sz:Nat}{y:Row}
section
variable{H H0:Hp}{dv cv:AV}{p:Nat}{q:Pk}
structure PkR(H0 H:Hp)(p:Nat)(q:Pk)(dv cv:AV):Prop where
 row:Ah H p=some (c_ A5 [I q.kd,dv,cv])
 ds:Bp H Au 1 dv q.ds.length (AF q.ds)
 cs:Bp H Ab 68 cv q.cs.length (q.cs.flatMap PC.cells)
 d0:q.ds=[]->dv=Aw
 w0:Wf H0
 wf:Wf H
 nx:Ar H0<=Ar H
 fr:∀u y,Ah H0 u=some y->Ah H u=some y
 ip:Ar H0<=p
 id:∀u,A8 dv u->Ar H0<=u
 ic:∀u,A8 cv u->Ar H0<=u
def Bp.el{cs cs':Is}{b:Bool}(h:Bp H e sz v m cs)(c:Ah H s=some (.cells b e' cs'))(hn:e≠e'):¬A8 v s:=by
 rintro⟨_,_,_,rfl⟩;rcases h with⟨h,_⟩|⟨r,q,h1,h2,_⟩
 ·cases h
 ·injection h1 with _ h1
  subst h1;rw[c]at h2;injection h2 with h2
  injection h2 with _ h2
  exact hn h2.symm
def Bp.no{e e' sz b m f s:Nat}{v w:AV}{cs cs':Is}(h:Bp H e sz v m cs)(k:Bp H e' b w f cs')(hn:e≠e')(c:A8 w s):¬A8 v s:=by
 obtain⟨_,_,_,rfl⟩:=c;rcases k with⟨k,_⟩|⟨r,q,k1,d,_⟩
 ·cases k
 ·injection k1 with _ k1
  subst k1;exact h.el d hn
def Bp.up{cs:Is}(h:Bp H e sz v m cs)(hn:¬A8 v p):Bp (upd H p y) e sz v m cs:=
 h.kp λs x c b=>by
  have e:s≠p:=λe=>hn (by rw[<-e];exact c);rw[Ag e];exact b
def PkR.ne(h:PkR H0 H p q dv cv){u:Nat}(b:Ah H0 u=some y):u≠p:=λe=>by
 have:=h.w0.lt b;have:=h.ip;omega
def PkR.pks(h:PkR H0 H p q dv cv):PkS H (.agg [I q.kd,dv,cv]) q:=by
 refine⟨dv,cv,rfl,.inr (Bp.rq h.ds),?_,h.d0⟩;rcases h.cs with⟨h1,h2,_⟩|⟨r,b,h1,h2,_⟩
 ·exact .inl ⟨h1,gM h2⟩
 ·exact .inr (.inr ⟨r,b,[],h1,by rw[Vq];exact h2⟩)
end
end
section
variable{H H0:Hp}{dv cv:AV}
structure PkO(H0 H:Hp)(q:Pk)(dv cv:AV):Prop where
 ds:Bp H Au 1 dv q.ds.length (AF q.ds)
 cs:Bp H Ab 68 cv q.cs.length (q.cs.flatMap PC.cells)
 d0:q.ds=[]->dv=Aw
 wf:Wf H
 nx:Ar H0<=Ar H
 fr:∀u y,Ah H0 u=some y->Ah H u=some y
 id:∀u,A8 dv u->Ar H0<=u
 ic:∀u,A8 cv u->Ar H0<=u
end
section
variable{L n:Nat}
section
variable{H H0 H':Hp}{dv cv v:AV}{K:KV}{x0:Af}{q:Pk}{l:List AN}
def A1s{k:Ru}(h:SA l v)(c:l.length<1000)(b:k H=x0):
 ∀(fuel i:Nat),l.length<fuel+i->i<=l.length->LQ (L+20) (r! L n) K k fuel v v (I i) H=x0
 |0,i,h1,h2=>by omega
 |fuel+1,i,h1,h2=>by
  rw[Wu];unfold LR Kx A4 FW;rw[h.len];by_cases hi:i<l.length
  ·rw[XA2 (by omega),Cy];simp only[h.ia hi,JS,B1,RS,decide_true,Bool.not_true];rw[AY,CW (by omega)];exact A1s h c b fuel (i+1) (by omega) (by omega)
  ·rw[Fk (by omega),AY];exact b
def B3L(h:SA l v)(d:l.length<1000)(e:1000<L){F:K2}:Ap (r! L (n+1)) Dw [v,v] H F=F (Bo true):=by
 refine AO (λK c=>?_) (Al (h.fx H) (Al (h.fx H) AD));rw[Yk];unfold MG A4 Ks FW;rw[h.len,h.len,neI,AY];simp only[BF];exact A1s (n:=n) h d (c _ _ λb=>⟨false,C7⟩) (L+20) 0 (by omega) (by omega)
def PkO.row(h:PkO H0 H q dv cv)(w0:Wf H0):∃H',(∀F:KV,(Bx A5 AI H λb d=>DE AI b (.agg [I q.kd,dv,cv]) d λe=>F b e)=F (.ptr (Ar H) 0 0) H')/\PkR H0 H' (Ar H) q dv cv:=by
 have g:Ah ((Ar H,c_ A5 [I 0,Aw,Aw])::H) (Ar H)=some (c_ A5 [I 0,Aw,Aw]):=Ay (by simp);have i:([I q.kd,dv,cv]:Is).all AV.one=true:=by
  have a1:=Bp.one h.ds;have a2:=Bp.one h.cs;simp only[qU,l3a,a1,a2];rfl
 have kp:∀u y,Ah H u=some y->Ah (upd ((Ar H,c_ A5 [I 0,Aw,Aw])::H) (Ar H) (c_ A5 [I q.kd,dv,cv])) u=some y:=λu y c=>by
  have:=h.wf.lt c;rw[Ag (by omega)];exact A6 this c
 refine⟨_,λF=>by rw[Bv (cs:=[I 0,Aw,Aw]) rfl,BO (vs:=[I q.kd,dv,cv]) g rfl rfl i],⟨AC g,h.ds.kp λs x _ f=>kp s x f,h.cs.kp λs x _ f=>kp s x f,h.d0,w0,Bm (AG h.wf),?_,λu y c=>kp u y (h.fr u y c),h.nx,h.id,h.ic⟩⟩;rw[B9];exact fR h.nx (l1u _)
end
end

section
variable{H:Hp}{v w:AV}{K:KV}{r:Nat}{A:ed}{l:List AN}
def MB.hi(h:MB H v l){i:Nat}(hi:i<l.length):∃w,(∀K:K2,D3 Ac v none (some (I (i:Int))) none K=K w)/\MB H w (l.take i):=by
 rcases h with⟨_,rfl⟩|⟨r,q,b,rfl,h2⟩
 ·simp at hi
 ·refine⟨_,λK=>VY (by omega),.inr ⟨r,q,AF (l.drop i)++b,by rw[E!,l22 (by omega)],?_⟩⟩;have e:AF (l.take i)++AF (l.drop i)=AF l:=by rw[AF,AF,AF,<-dW,l38]
  rw[<-eI,e];exact h2
def wQ(b:GOk A):∀c∈A,c.ps.length<100:=λc hc=>by
 have:=Q7 (b.ok c hc);omega
end
section
set_option maxHeartbeats 4000000
end
section
variable{c:Cd}
variable{L n:Nat}
section
variable{H H':Hp}{v:AV}{gs A:ed}
def Yt.of_sl(h:Bp H Ab 68 v gs.length (gs.flatMap Cd.cs)):Yt H v (gs.map .c):=by
 rcases h with⟨h1,h2,_⟩|⟨r,q,h1,h2,_⟩
 ·exact .inl ⟨h1,by rw[gM h2];rfl⟩
 ·exact .inr (.inr ⟨r,q,[],by rw[QK];exact h1,by rw[Vq,V_];exact h2⟩)
def A4h:∀(l:ed)(i:Nat),VE (-1) i l=[]:=by
 intro l
 induction l with
 |nil=>intro i;rfl
 |cons c l ih=>
  intro i;have e:pk (-1) 1048576=0:=by decide
  have hb:A2V (-1) i=false:=Ir (by rw[e,Int.zero_fdiv];decide);rw[SK,hb];exact ih (i+1)
def A7K:∀(l:ed)(i:Nat),i+l.length<=20->VE 1048575 i l=l:=by
 intro l
 induction l with
 |nil=>intro i _;rfl
 |cons c l ih=>
  intro i h;rw[LI]at h;have hb:∀i:Fin 20,A2V 1048575 i.1=true:=by decide
  rw[SK,hb ⟨i,by omega⟩,Dv rfl,ih (i+1) (by omega)]
def B7k(h:Bp H Ab 68 v A.length (A.flatMap Cd.cs)):∃b H',(∀K:KV,zE v H K=K b H')/\LA A b/\Lat H H' (A8 v):=by
 rcases h with⟨rfl,h1,_⟩|⟨r,q,rfl,h2,g⟩
 ·have d:=gM h1;exact⟨Aw,H,λK=>r_ rfl,.inr ⟨d,rfl⟩,.refl _ _⟩
 ·refine⟨.list A.length (A.flatMap Cd.cs),upd H r .gone,λK=>?_,.inl rfl,.upd _ _ _ ⟨_,_,_,rfl⟩⟩;have e:zE (.sl 68 r 0 A.length) H K=IP H r λx=>Kb x λ_ cs=>E9 (Nat.mul A.length 68) (Dn 0 cs) λc=>ck (c.all (dA 3)) (LJ H r .gone λH'=>K (.list A.length c) H'):=rfl;rw[e,Bl h2];show E9 (A.length*68) (Dn 0 (A.flatMap Cd.cs)) _=_;rw[CA,qV,Km _ _ _ (by omega),l25 (by omega)];have hc:(A.flatMap Cd.cs).all (dA 3)=true:=by
   rw[G9];intro x f;have⟨c,_,hc⟩:=l39.1 f;exact G9.1 (B2x (p:=dA 3) c (λ_=>rfl) (λ_=>rfl) rfl (λ_ _ _ _=>rfl)) x hc
  rw[hc,Dh];rfl
end
section
variable{K:KV}{w:AV}{H0:Hp}{m:Nat}{es:List (Ha×Unit)}
def A7d{ks:List Ha}(t:Vo 6 w w=true)(hn:es.length<1000000)(k:es.length<L)(wf:Wf H0)(hm:Ah H0 m=some (.map false (Dd uS es) none))(i:(es.map Prod.fst).Perm ks)(r:ks.Pairwise (· <= ·))(u:∀v H,NewSl (upd ((Ar H0,c_ BX [.mp m])::H0) m .gone) ks v H->(ks=[]->v=Aw)->K v H=some (w,[])):(r! L (n+6)).call GZ [.mp m] H0 K=some (w,[]):=by
 rw[QI];unfold K9;rw[Gn];unfold Dt Ih;have j:∀{K:KV},FV BX (.mp m) H0 K=K (.ptr (Ar H0) 0 0) ((Ar H0,c_ BX [.mp m])::H0):=λ{K}=>A57;rw[j];show(r! L (n+5)).call D9 [jK (.ptr (Ar H0) 0 0)] ((Ar H0,c_ BX [.mp m])::H0) _=_;rw[Fw];unfold Eo;have w1:=AG (x:=.cells true BX [.mp m]) wf;have hb:=Ay (H:=H0) (x:=.cells true BX [.mp m]) (by simp);have d:=A6 (x:=.cells true BX [.mp m]) (wf.lt hm) hm;refine tC (n:=n) t hn k w1 hb d λl v H f g hc=>?_;have e:Eu l=ks:=FZ ((Bb l).trans (f.trans i)) (Da l) r;have q:l.length=es.length:=by rw[f.length_eq,QK]
 refine S? (n:=n) (Bm w1) (by omega) g hc λH' b=>?_;rw[e]at b;refine u v H' b λh=>g ?_;have:=(f.trans i).length_eq;rw[h]at this;exact gM this
end
section
variable{gs:ed}{s p:AN}{H:Hp}{K:KV}{x:Af}{ps:List AN}
structure AsF(H0:Hp)(m:Nat)(b:List (AN×Unit))(v:AV)(nx:List AN)(H:Hp):Prop extends As m b v nx H where
 fr:∀u y,Ah H0 u=some y->Ah H u=some y
 im:Ar H0<=m
 iv:∀u,A8 v u->Ar H0<=u
def B6t{m:Nat}{H0:Hp}(P:Wf H0){O:KV}(hg:GOk gs)(hp:∀c∈gs,c.ps.length<100)(hx:∀b v H,AsF H0 m b v [] H->An gs s (b.map Prod.fst) []->O (.mp m) H=x):
 ∀(f:Nat)(b:List (AN×Unit))(nx:List AN)(v:AV)(H:Hp),A9U gs (b.map Prod.fst)*100+nx.length<f->A9U gs (b.map Prod.fst)*100+nx.length<2000->AsF H0 m b v nx H->An gs s (b.map Prod.fst) nx->
 XA6 (L+20) (r! L (n+1)) K O f (gV gs) (.mp m) v H=x:=by
 intro f
 induction f with
 |zero=>intro b nx v H h;omega
 |succ f ih=>
  intro b nx v H hf Z d hn;have g:∀{K:K2},Aq Ad .gtr (I (nx.length:Int)) (.v (.int .i64 0)) K=K (Bo (decide (0<nx.length))):=λ{K}=>by
   rw[Eh]
   congr 3
   simp
  rw[Zn];unfold NG D5 A4 FW;rw[d.sl.len,g];cases nx with
  |nil=>
   rw[Ir (by simp),AY];exact hx b v H d hn
  |cons p nx=>
   have⟨r,o,v1,e1,e2,e3,s1,r1⟩:=d.sl.front;have X:∀(F:Value->Af),Kk (S p) F=F (SV p):=λF=>id rfl;rw[LI]at hf Z;rw[Hu (by simp),Cy];simp only[BF];rw[e1,e2,e3,X,wG (f:=uS) (b:=b) (λK=>XM d.mm)];have⟨j,e4,ac,V,R⟩:=GC (e:=Om) (zs:=[]) (vs:=[]) d.wf rfl;have D:=(R _ _ d.mm).1;have ab:Lat H j (λ_=>False):=⟨λ_=>V,by rw[e4,B9];exact l1u _,λ_ u y i _=>(R u y i).1⟩
   have s2:Mk j v1 nx:=s1.lat d.wf ab (λ_ _ h=>h);have n1:¬A8 v1 m:=λh=>d.nm (r1 m h);have a2:AsF H0 m b v1 nx j:=⟨⟨D,s2,n1,V⟩,λu y i=>(R u y (d.fr u y i)).1,d.im,λu i=>d.iv u (r1 u i)⟩
   have z0:(BH.zero:AV)=.agg []:=rfl;have ad:∀{F:KV},(Bx Om BH H λB C=>DE BH B (.agg []) C λt=>F B t)=F (.ptr (Ar H) 0 0) j:=λ{F}=>by
    rw[Bv (cs:=[]) rfl,BO (cs:=[]) (vs:=[]) (Ay (by simp)) rfl rfl rfl,<-e4]
   cases M:Lg b p with
   |some w=>
    have k:p∈b.map Prod.fst:=Pu.2 ⟨_,A6r M,rfl⟩;simp only[];rw[EG,EF];show(Bx Om BH H λB C=>DE BH B (.agg []) C λt=>_)=_;rw[ad (F:=λ_ t=>_)];rw[DK];simp only[Bool.not_true,dY,gU,BK,QA];rw[AY];exact ih b nx v1 j (by omega) (by omega) a2 (hn.skip (.inl k))
   |none=>
    have k:p∉b.map Prod.fst:=λh=>by
     obtain⟨e,he,rfl⟩:=Pu.1 h;have:∀b:List (AN×Unit),e∈b->Lg b e.1≠none:=by
      intro b
      induction b with
      |nil=>intro h;cases h
      |cons a b ih=>
       intro h;unfold Lg;split
       ·simp
       ·rcases Vp.1 h with h|h
        ·subst h;exact absurd rfl ‹_›
        ·exact ih h
     exact this b he M
    simp only[];rw[EG,EF];try rw[z0]
    rw[ad (F:=λ_ t=>_)];rw[DK];by_cases q:p∈gs.map Cd.id
    ·simp only[Bool.not_false,gT,BK,rJ,Hu q,SJ];have eb:∀{K:K2},Cb BH [] K=K (.agg []):=λ{K}=>id rfl;rw[Cy,eb,X];show Mg (.mp m) (SV p) (uS ()) j _=_;rw[ZW (f:=uS) (v:=()) D,X,B2h];have l3:Lat j (upd j m (.map false (Dd uS (Ku b p ())) none)) (λu=>u=m):=Lat.upd _ _ _ rfl;have s3:Mk (upd j m (.map false (Dd uS (Ku b p ())) none)) v1 nx:=s2.lat V l3 (λu i e=>n1 (e▸i));have J:Ah (upd j m (.map false (Dd uS (Ku b p ())) none)) m=some (.map false (Dd uS (Ku b p ())) none):=(BC D).trans rfl;have Q:=l3.wf V;have ae:=A65 (p:=p) hp;have⟨v',H',g1,g2,g3,Y⟩:=s3.app (ps:=JW gs p) (by omega);rw[g1];have hk:(Ku b p ()).map Prod.fst=b.map Prod.fst++[p]:=by rw[mI,CL k]
     have hl:=A7r k q;have N:=hn.step k q;rw[<-hk]at hl N;have aa:=Y.keep Q _ _ J n1;exact ih (Ku b p ()) (nx++JW gs p) v' H' (by rw[EN];omega) (by rw[EN];omega) ⟨⟨aa,g2,λi=>by have a1:=g3 m i;have a2:=Q.lt J;omega,Y.wf Q⟩,λu y i=>Y.keep Q u y (by have:=P.lt i;have:=d.im;rw[Ag (by omega)];exact(R u y (d.fr u y i)).1) (λhr=>by have:=P.lt i;have:=d.iv u (r1 u hr);omega),d.im,λu i=>by have a1:=g3 u i;have a2:=Q.lt J;have:=d.im;omega⟩ N
    ·simp only[Bool.not_false,gT,BK,rJ,Ir q,SJ];rw[AY];exact ih b nx v1 j (by omega) (by omega) a2 (hn.skip (.inr q))
def B88{a w:AV}(V:Vo 6 w w=true)(i:GOk gs)(M:40000<L)(C:∀c∈gs,c.ps.length<100)(f:LA gs a)(w0:Wf H)(X:∀v H',Bp H' Au 1 v (eB gs s).length (AF (eB gs s))->Wf H'->Ar H<=Ar H'->(∀u y,Ah H u=some y->Ah H' u=some y)->(∀u,A8 v u->Ar H<=u)->K v H'=some (w,[])):
 (r! L (n+80)).call Pj [a,S s] H K=some (w,[]):=by
 rw[dS];unfold OP;have of:∀{K:K2},Ap (r! L (n+79)) IZ [a] H K=K (.tup [gV gs,Bo true]):=λ{K}=>Iw (λK J=>A9w (n:=n+15) i M f K J) (Al (f.fx H) AD);have em:∀{K:KV},Ld BH H K=K (.mp (Ar H)) ((Ar H,.map false [] none)::H):=λ{K}=>by
  show HE H (λs=>K (.mp s) ((s,.map false [] (fL BH.d))::H))=_;rw[BS];rfl
 have D:∀(F:Value->Af),Kk (S s) F=F (SV s):=λF=>id rfl;rw[of,EG,EF,em,D,B2h];simp only[BF];have w1:Wf ((Ar H,Row.map false [] none)::H):=AG w0;have t:=A65 (p:=s) C;have Y:=i.len;have O:=B45 (gs:=gs) (b:=[]);have k1:∀u y,Ah H u=some y->Ah ((Ar H,Row.map false [] none)::H) u=some y:=λu y e=>A6 (w0.lt e) e;have n1:Ar ((Ar H,Row.map false [] none)::H)=Ar H+1:=rfl;refine S_ (n:=n+78) w1 t λv H' Q B hr wf=>?_;have r:=B (Ar H) (.map false [] none) (Ay (by simp));refine B6t (n:=n+78) (s:=s) (H0:=H) w0 i C (λb v j f hn=>?_) (L+20) [] (JW gs s) v H' (by simp;omega) (by simp;omega) ⟨⟨r,Q,λe=>by have:=hr _ e;omega,wf⟩,λu y e=>B u y (k1 u y e),MC _,λu e=>by have:=hr u e;omega⟩ An.start;have h:=hn.fin i.ids;have N:b.length<1000:=by
  have h1:=h.length_eq;have h2:=A33 (gs:=gs) (s:=s);rw[QK]at h1;omega
 refine A7d (n:=n+73) V (by omega) (by omega) f.wf f.mm h C1Q λv k hv R=>?_;have q:∀u y,Ah H u=some y->Ah k u=some y:=λu y e=>hv.keep u y (by
  have a1:=w0.lt e;have a2:=f.fr u y e;rw[Ag (by omega)];exact A6 (f.wf.lt a2) a2)
 have P:Ar H<=Ar j:=by have:=f.wf.lt f.mm;omega
 have g:=hv.nx;rw[B9]at g;have g:Ar j+1<=Ar k:=g;refine X v k hv.sl hv.wf (by omega) q λu e=>?_;have:=hv.new u e;rw[B9]at this;have:Ar j+1<=u:=this;omega
end
section
variable{H:Hp}{v a:AV}{gs A:ed}{K:KV}
def A7k(af:c.Ok)(ag:c.ps.length<100):CT (r! L (n+2)) Tv [.agg c.cs] (.agg c.cs):=by
 intro K hK;rw[mW];unfold SZ DN;have⟨pT,pI,pN⟩:=B2G af;have e0:c.cs=c.csP (Di c.ps):=(A0o c).symm;have one:∀P,AV.one P=true->(c.csP P).all AV.one=true:=λP h=>kM c h;have aa:AV.one (Di c.ps)=true:=by cases c.ps<;>rfl
 have l0:∀{H:Hp},Ah H 0=some (c_ Ab (c.csP (Di c.ps)))->True:=λ_=>trivial;have same:∀{H:Hp}{P:AV}{p:Nat}{i:TI}{v:AV}{K:Ru},Ah H 0=some (c_ Ab (c.csP P))->p<68->i.size=1->B4 v=[v]/\AV.one v=true->(c.csP P).set p v=c.csP P->DE i (.ptr 0 p 0) v H K=K (upd H 0 (c_ Ab (c.csP P))):=λ{H P p i v K}hl hp hi hv hs=>by
  rw[DT (cs:=c.csP P) hl (by rw[JC];exact hp) hi hv.1 hv.2,hs]
 have F:∀{H:Hp}{P:AV}{p:Nat}{i:TI}{v:AV}{K:K2},i.d.isAgg=false->Ah H 0=some (c_ Ab (c.csP P))->p<68->(c.csP P).getD p .dk=v->AE i (.ptr 0 p 0) H K=K v:=λ{H P p i v K}hi hl hp hv=>by
  rw[AL (p:=p) hi hl (by rw[JC];exact hp),hv]
 have eb:∀{K:KV},FV Ab (.agg (c.csP (Di c.ps))) [] K=K (.ptr 0 0 0) [(0,c_ Ab (c.csP (Di c.ps)))]:=λ{K}=>DZ (one _ aa);have ea:∀{K:KV},Bx Ab Ae [(0,c_ Ab (c.csP (Di c.ps)))] K=K (.ptr 1 0 0) [(1,c_ Ab BI),(0,c_ Ab (c.csP (Di c.ps)))]:=λ{K}=>Bv (cs:=BI) rfl;rw[e0,eb,ea];have h0:Ah [(1,c_ Ab BI),(0,c_ Ab (c.csP (Di c.ps)))] 0=some (c_ Ab (c.csP (Di c.ps))):=rfl;have h1:Ah [(1,c_ Ab BI),(0,c_ Ab (c.csP (Di c.ps)))] 1=some (c_ Ab BI):=rfl;have w0:Wf [(1,c_ Ab BI),(0,c_ Ab (c.csP (Di c.ps)))]:=AG (AG Ft);show CI 26 (.ptr 0 0 0) _=_;rw[fA,fA];show AE A1 (.ptr 0 28 0) [(1,c_ Ab BI),(0,c_ Ab (c.csP (Di c.ps)))] _=_;generalize [(1,c_ Ab BI),(0,c_ Ab (c.csP (Di c.ps)))]=H at h0 h1 w0;rw[F rfl h0 (by decide) (Nm c _).1,AO (C4K (n:=n) pT) (Al pT.fx AD),fA,fA];show DE A1 (.ptr 0 28 0) c.fT H _=_;rw[same h0 (by decide) rfl pT.cell (Nl c _).1];have a0:=AC (q:=true) (e:=Ab) (cs:=c.csP (Di c.ps)) h0;have a1:Ah (upd H 0 (c_ Ab (c.csP (Di c.ps)))) 1=some (c_ Ab BI):=by rw[Ag (by decide)];exact h1
 have aw:Wf (upd H 0 (c_ Ab (c.csP (Di c.ps)))):=Bm w0;generalize upd H 0 (c_ Ab (c.csP (Di c.ps)))=H1 at a0 a1 aw;show CI 31 (.ptr 0 0 0) _=_;rw[fA];show AE Ac (.ptr 0 31 0) H1 _=_;rw[F rfl a0 (by decide) (Nm c _).2.1];have main:∀v f,Mk f v c.ps->(c.ps=[]->v=Aw)->Ah f 0=some (c_ Ab (c.csP (Di c.ps)))->Ah f 1=some (c_ Ab BI)->(∀u,A8 v u->1<u)->Wf f->
  (CI 31 (.ptr 0 0 0) λai=>DE Ac ai v f λr=>CI 32 (.ptr 0 0 0) λaj=>CI 1 aj λak=>AE Ak ak r λam=>Ap (r! L (n+1)) CE [am] r λao=>
   CI 32 (.ptr 0 0 0) λap=>CI 1 ap λaq=>DE Ak aq ao r λt=>CI 32 (.ptr 0 0 0) λar=>CI 2 ar λax=>AE Av ax t λay=>Ap (r! L (n+1)) CF [ay] t λaz=>
   CI 32 (.ptr 0 0 0) λa3=>CI 2 a3 λa4=>DE Av a4 az t λJ=>CI 65 (.ptr 0 0 0) λa5=>CI 1 a5 λa6=>AE Ac a6 J λa7=>(r! L (n+1)).call AH [a7] J λa8 ab=>
   CI 65 (.ptr 0 0 0) λa9=>CI 1 a9 λba=>DE Ac ba a8 ab λM=>CI 65 (.ptr 0 0 0) λbc=>CI 2 bc λbd=>AE Ac bd M λbe=>(r! L (n+1)).call AH [be] M λbf ac=>
   CI 65 (.ptr 0 0 0) λbg=>CI 2 bg λbh=>DE Ac bh bf ac λN=>AE Ae (.ptr 0 0 0) N λbj=>DE Ae (.ptr 1 0 0) bj N λO=>AE Ae (.ptr 1 0 0) O λbk=>K bk O)=some (.agg (c.csP (Di c.ps)),[]):=λv f hv ah b0 b1 hr bw=>by
  rw[fA];show DE Ac (.ptr 0 31 0) v f _=_;rw[DT (cs:=c.csP (Di c.ps)) b0 (by rw[JC];decide) rfl hv.cell.1 hv.cell.2,(Nl c _).2.1 v];have Q:Mk (upd f 0 (c_ Ab (c.csP v))) v c.ps:=hv.kp λu y j hy=>by rw[Ag (by have:=hr u j;omega)];exact hy
  have c0:=AC (q:=true) (e:=Ab) (cs:=c.csP v) b0;have c1:Ah (upd f 0 (c_ Ab (c.csP v))) 1=some (c_ Ab BI):=by rw[Ag (by decide)];exact b1
  have cw:Wf (upd f 0 (c_ Ab (c.csP v))):=Bm bw;generalize upd f 0 (c_ Ab (c.csP v))=H3 at Q c0 c1 cw;have k:∀{H:Hp},Ah H 0=some (c_ Ab (c.csP v))->Ah H 1=some (c_ Ab BI)->Mk H v c.ps->Ah (upd H 0 (c_ Ab (c.csP v))) 0=some (c_ Ab (c.csP v))/\Ah (upd H 0 (c_ Ab (c.csP v))) 1=some (c_ Ab BI)/\Mk (upd H 0 (c_ Ab (c.csP v))) v c.ps:=λ{H}C g1 g2=>
   ⟨AC C,by rw[Ag (by decide)];exact g1,g2.kp λu y j hy=>by rw[Ag (by have:=hr u j;omega)];exact hy⟩
  rw[fA,fA];show AE Ak (.ptr 0 33 0) H3 _=_;rw[F rfl c0 (by decide) (Nm c _).2.2.1,AO (C4J (n:=n) pI) (Al pI.fx AD),fA,fA];show DE Ak (.ptr 0 33 0) c.fI H3 _=_;rw[same c0 (by decide) rfl pI.cell (Nl c _).2.2.1];have⟨d0,d1,R⟩:=k c0 c1 Q;generalize upd H3 0 (c_ Ab (c.csP v))=H4 at d0 d1 R;rw[fA,fA];show AE Av (.ptr 0 34 0) H4 _=_;rw[F rfl d0 (by decide) (Nm c _).2.2.2.1,AO (C4L (n:=n) pN) (Al pN.fx AD),fA,fA];show DE Av (.ptr 0 34 0) c.fN H4 _=_;rw[same d0 (by decide) rfl pN.cell (Nl c _).2.2.2.1];have⟨f0,f1,V⟩:=k d0 d1 R;generalize upd H4 0 (c_ Ab (c.csP v))=H5 at f0 f1 V;rw[fA,fA];show AE Ac (.ptr 0 66 0) H5 _=_;rw[F rfl f0 (by decide) (Nm c _).2.2.2.2.1,RX,fA,fA];show DE Ac (.ptr 0 66 0) Aw H5 _=_;rw[same f0 (by decide) rfl ⟨rfl,rfl⟩ (Nl c _).2.2.2.2.1];have⟨C,g1,X⟩:=k f0 f1 V;generalize upd H5 0 (c_ Ab (c.csP v))=H6 at C g1 X;rw[fA,fA];show AE Ac (.ptr 0 67 0) H6 _=_;rw[F rfl C (by decide) (Nm c _).2.2.2.2.2,RX,fA,fA];show DE Ac (.ptr 0 67 0) Aw H6 _=_;rw[same C (by decide) rfl ⟨rfl,rfl⟩ (Nl c _).2.2.2.2.2];have⟨i0,i1,Y⟩:=k C g1 X;generalize upd H6 0 (c_ Ab (c.csP v))=H7 at i0 i1 Y;rw[Bu rfl (by exact(JC c).symm) i0,BO (cs:=BI) (vs:=c.csP v) i1 (by rw[JC];rfl) rfl (one v hv.cell.2)];have j1:=AC (q:=true) (e:=Ab) (cs:=c.csP v) i1;have Z:Mk (upd H7 1 (c_ Ab (c.csP v))) v c.ps:=Y.kp λu y j hy=>by rw[Ag (by have:=hr u j;omega)];exact hy
  rw[Bu rfl (by exact(JC c).symm) j1];rw[<-e0];refine hK _ _ ?_;generalize upd H7 1 (c_ Ab (c.csP v))=H8 at Z;have⟨q,hq⟩:=Z.fxc ah (b:=true) (D:=depth-2);have⟨A,B,e,ad,ae⟩:=ZZ c;rw[e0,e,e];exact⟨_,L0 (D:=depth-1) (rZ (TX A ad) (Al hq (TX B ae)))⟩
 by_cases g:c.ps=[]
 ·have en:Di c.ps=Aw:=by rw[g];rfl
  have:=main Aw H1 (.inl ⟨rfl,g⟩) (λ_=>rfl) a0 a1 (λu j=>absurd j HY) aw;rw[en];rw[en]at this;rw[RX];exact this
 ·refine S_ (n:=n) aw ag λv f hv hk hr hw=>main v f hv (λh=>absurd h g) (hk _ _ a0) (hk _ _ a1) (λu j=>?_) hw;have b1:=hr u j;have b2:=aw.lt a1;omega
def B7X(j:GOk gs)(B:40000<L)(k:LA gs a)(hc:c∈gs):CT (r! L (n+65)) RI [a,S c.id] (.tup [.agg c.cs,Bo true]):=by
 intro K h;rw[vJ];unfold Xt LF;have d:=j.ok c hc;rw[Bv (cs:=BI) rfl];have w1:=AG (x:=.cells true Ab BI) Ft;have b1:Ah ((Ar [],c_ Ab BI)::([]:Hp)) (Ar [])=some (c_ Ab BI):=Ay (by simp);generalize ((Ar [],c_ Ab BI)::([]:Hp))=g at w1 b1;generalize Ar ([]:Hp)=r1 at b1;have of:∀{K:K2},Ap (r! L (n+64)) IZ [a] g K=K (.tup [gV gs,Bo true]):=λ{K}=>Iw (λK h=>A9w j B k K h) (Al (k.fx g) AD);have y:∀(F:Value->Af),Kk (S c.id) F=F (SV c.id):=λF=>r_ rfl;rw[of,EG,EF,y,wG (f:=DU) (b:=gE gs) (λK=>r_ rfl),FH j.ids hc];simp only[];rw[EG,EF,Bv (cs:=BI) rfl];show(DE Ae (.ptr (Ar g) 0 0) (.agg c.cs) _ _)=_;rw[BO (cs:=BI) (vs:=c.cs) (Ay (by simp)) CY rfl Ja];have⟨r,u,i,J,C⟩:=GC (e:=Ab) (zs:=BI) (vs:=c.cs) w1 CY;rw[<-u,Bu rfl CY.symm i];have t:∀{F:K2},Ap (r! L (n+64)) Tv [.agg c.cs] r F=F (.agg c.cs):=λ{F}=>Iw (A7k (n:=n+62) d (by have:=Q7 d;omega)) (Al (wS (D:=9)) AD);have b2:=(C _ _ b1).1;rw[t,BO (cs:=BI) (vs:=c.cs) b2 CY rfl Ja,Bu rfl CY.symm (AC b2)];exact h _ _ ⟨_,Zo (Al (wS (D:=8)) (Al (q:=false) C7 AD))⟩
end
end
section
variable{c:Cd}{i:Nat}
variable{L n:Nat}
section
variable{H H':Hp}{v a c1 sw ok sm lo e0 e1 d2 d3 d4 d5 d6 d7 d8 d9 d10 d11 d12 d13 d14:AV}{gs A B S:ed}{K:KV}{x0:Af}{r:Nat}{z:Int}{ws:List Int}
def GOk.sub(b:GOk gs)(h:A.Sublist gs):GOk A:=⟨λc hc=>b.ok c (h.subset hc),λc hc=>b.nd c (h.subset hc),b.ids.sublist (h.map _),fR h.length_le b.len⟩
def GOk.perm(b:GOk A)(h:B.Perm A):GOk B:=⟨λc hc=>b.ok c (h.mem_iff.1 hc),λc hc=>b.nd c (h.mem_iff.1 hc),(h.map Cd.id).symm.nodup b.ids,by rw[h.length_eq];exact b.len⟩
def B6o(z:Int)(i:Nat):Bool:=decide (((pk z 256).fdiv (2^i)).tmod 2=1)
def iI(z:Int):Nat->ed->ed
 |_,[]=>[]
 |i,c::l=>if B6o z i then c::iI z (i+1) l else iI z (i+1) l
def A7v{l:ed}:iI z i (c::l)=if B6o z i then c::iI z (i+1) l else iI z (i+1) l:=rfl
def B06{l:ed}:∀{i:Nat},(iI z i l).Sublist l:=by
 induction l with
 |nil=>intro i;exact List.Sublist.refl _
 |cons c l ih=>
  intro i;unfold iI;split
  ·exact(ih (i:=i+1)).cons_cons c
  ·exact(ih (i:=i+1)).cons c
def A9b{k:AV->AV->AV->AV->AV->AV->AV->AV->AV->AV->AV->AV->AV->AV->AV->AV->AV->AV->KV}(p:GOk gs)(hz:Kv z)(h:LA gs a)(s:∀v H',Bp H' Ab 68 v (iI z 0 gs).length ((iI z 0 gs).flatMap Cd.cs)->Wf H'->k (I z) sw ok a v (I gs.length) d2 d3 d4 d5 d6 d7 d8 d9 d10 d11 d12 d13 d14 H'=x0):
 ∀(fuel i:Nat)(b:ed)(v:AV)(H:Hp),gs.length<fuel+i->i<=gs.length->b++iI z i (gs.drop i)=iI z 0 gs->b.length<=i->Bp H Ab 68 v b.length (b.flatMap Cd.cs)->Wf H->
  KA (L+20) (r! L (n+86)) K k fuel (I z) sw ok a v (I i) e0 e1 d2 d3 d4 d5 d6 d7 d8 d9 d10 d11 d12 d13 d14 H=x0
 |0,i,b,v,H,h1,h2,_,_,_,_=>by omega
 |fuel+1,i,b,v,H,h1,h2,d,O,j,wf=>by
  rw[UW];unfold KE Ia A4;simp only[BF];have y:=p.len;rw[h.len];by_cases hi:i<gs.length
  ·rw[XA2 (by omega),Cy];have C:∀{H:Hp}{F:K2},Ap (r! L (n+86)) IC [I z,(AV.v (.int .i64 256))] H F=F (I (pk z 256)):=λ{H F}=>(uG (n:=n+85) hz (by decide) (by decide)) H F;have g:∀{F:K2},Aq Ad .rem (I ((pk z 256).fdiv (2^i))) (AV.v (.int .i64 2)) F=F (I (((pk z 256).fdiv (2^i)).tmod 2)):=λ{F}=>Tz (by decide);rw[C,B05 (by omega),g,CV];have x:gs.drop i=gs[i]::gs.drop (i+1):=rV hi;rw[x,A7v]at d;by_cases hb:((pk z 256).fdiv (2^i)).tmod 2=1
   ·have f:B6o z i=true:=Hu hb;rw[Dv f]at d;have⟨D,u,a1,a2,w,J,M,N⟩:=zG (ie:=Ae) (i2:=Am) (ys:=gs[i].cs) j wf CY Ja (by decide) rfl (λ_=>rfl) (by show(_+1)*800<=_;omega) (by omega);have e:b.flatMap Cd.cs++gs[i].cs=(b++[gs[i]]).flatMap Cd.cs:=by simp
    rw[e]at a2;rw[Hu hb,Cy,h.ia hi,oF,C1I CY Ja,a1,CW (by omega)];exact A9b p hz h s fuel (i+1) (b++[gs[i]]) D u (by omega) (by omega) (by rw[<-d];simp) (by simp;omega) (by rw[EN];exact a2) w
   ·have f:B6o z i=false:=Ir hb;rw[f]at d;rw[Ir hb,AY,CW (by omega)];exact A9b p hz h s fuel (i+1) b v H (by omega) (by omega) (by simpa using d) (by omega) j wf
  ·rw[Fk (by omega),AY];rw[List.drop_of_length_le (by omega)]at d;have t:b++[]=iI z 0 gs:=d;rw[Vq]at t;have q:i=gs.length:=by omega
   rw[q];rw[t]at j;exact s v H j wf
def A5V{q:Bool}(h:Ah H r=some (.cells q Ab (A.flatMap Cd.cs)))(hi:i<A.length)(wf:Wf H):
 ∃H',(∀F:Ru,DE Ae (.ptr r (i*68) 0) (.agg c.cs) H F=F H')/\Ah H' r=some (.cells q Ab ((A.set i c).flatMap Cd.cs))/\Wf H':=by
 have f:(A.flatMap Cd.cs).length=A.length*68:=jV (λc=>CY (c:=c)) A;have hm:(i+1)*68<=A.length*68:=l28 _ hi;have b:c.cs.length=68:=CY;have e:splice (A.flatMap Cd.cs) (i*68) c.cs=(A.set i c).flatMap Cd.cs:=by
  unfold splice;have e1:=(A6u (λc=>CY (c:=c)) A i).1;have d:=(A6u (λc=>CY (c:=c)) A (i+1)).2;rw[e1,b,show i*68+68=(i+1)*68 by omega,d,List.set_eq_take_append_cons_drop,Dv hi,l2l,nM,eI]
 refine⟨_,λF=>gA h (by rw[b,f];omega) b.symm Ja,?_,Bm wf⟩;rw[e];exact AC h
def B6P(h:Kv z):Kv (z.tdiv 8):=by
 have h1:=h.1;have h2:=h.2;unfold Kv;rcases Int.le_total 0 z with hz|hz
 ·rw[Int.tdiv_eq_ediv_of_nonneg hz];omega
 ·have e:z.tdiv 8= -((-z).tdiv 8):=by rw[Int.neg_tdiv,Int.neg_neg]
  rw[e,Int.tdiv_eq_ediv_of_nonneg (by omega)];omega
def B6D{k:AV->AV->AV->AV->AV->AV->AV->AV->AV->AV->AV->AV->AV->KV}(f:NA ws sw)(X:S.length<=8)(w:∀(ms:ed)(v:AV)(i:Nat)H',ms.Perm S->Bp H' Ab 68 v ms.length (ms.flatMap Cd.cs)->Wf H'->k c1 sw ok a sm lo v (I i) d9 d10 d11 d12 d13 d14 H'=x0):
 ∀(fuel i:Nat)(ms:ed)(v:AV)(H:Hp),20<fuel+i->i<=20->ms.Perm S->Bp H Ab 68 v ms.length (ms.flatMap Cd.cs)->Wf H->
  KB (L+20) (r! L (n+86)) K k fuel c1 sw ok a sm lo v (I i) e0 e1 d2 d3 d4 d5 d6 d9 d10 d11 d12 d13 d14 H=x0
 |0,i,ms,v,H,h1,h2,_,_,_=>by omega
 |fuel+1,i,ms,v,H,h1,h2,s,e,wf=>by
  rw[UX];unfold KF Ia Kx D5 A4 FW;have Y:=s.length_eq;rw[f.len,DO];by_cases hi:i<ws.length
  rotate_left
  ·simp only[Ir (show¬(i:Int)<(ws.length:Int) by omega),dY,gU,gT,BK,QA];rw[AY];exact w ms v i H s e wf
  have C:∀{F:K2},Aq Ad .lss (I (i:Int)) (AV.v (.int .i64 20)) F=F (Bo (decide (i<20))):=λ{F}=>by rw[DO];congr 3;simp;omega
  simp only[Hu (show(i:Int)<(ws.length:Int) by omega),gT,BK,C,SJ];by_cases g:i<20
  rotate_left
  ·simp only[Ir g,dY,gU,gT,BK,QA];rw[AY];exact w ms v i H s e wf
  have D:∀{F:K2},Ba Am v F=F (I ms.length):=λ{F}=>by rw[(Yt.of_sl e).len,QK]
  have V:∀{F:K2},Aq Ad .gtr (I (ms.length:Int)) (AV.v (.int .i64 0)) F=F (Bo (decide ((0:Int)<ms.length))):=λ{F}=>Eh;simp only[Hu g,gT,BK,D,V,SJ];by_cases hm:0<ms.length
  rotate_left
  ·rw[Ir (by omega),AY];exact w ms v i H s e wf
  have hz:=f.2.2 _ (Ql hi);have t:∀{y:Int}(Q:Kv y){F:K2},Ap (r! L (n+86)) IC [I y,I (ms.length:Int)] H F=F (I (pk y ms.length)):=λ{y}Q{F}=>(uG (n:=n+85) Q (by omega) (by omega)) H F;have Z:∀{F:K2},Aq Ad .quo (I ws[i]) (AV.v (.int .i64 8)) F=F (I (ws[i].tdiv 8)):=λ{F}=>by
   have h:=B6P hz;rw[A2N (by decide),CX h.1 h.2]
  rw[Hu (by omega),Cy,f.ia hi (by omega),t hz,f.ia hi (by omega),Z,t (B6P hz)];have nat:∀y:Int,∃j:Nat,pk y ms.length=(j:Int)/\j<ms.length:=λy=>by
   have⟨a,b⟩:=FT (c:=y) (n:=(ms.length:Int)) (by omega);exact⟨(pk y ms.length).toNat,by omega,by omega⟩
  have⟨p,p1,p2⟩:=nat ws[i];have⟨u,u1,x⟩:=nat (ws[i].tdiv 8);rw[p1,u1];rcases id e with⟨_,h0,_⟩|⟨r,q,rfl,hr,P⟩
  ·omega
  have R:∀{j:Nat}(J:j<ms.length){F:K2},AE Ae (.ptr r (j*68) 0) H F=F (.agg ms[j].cs):=λ{j}J{F}=>by
   have:=(Yt.of_sl e).get (i:=j) (by rw[QK];exact J) (F:=F);rw[A0k J,l2n]at this;exact this
  have⟨H1,s1,s2,s3⟩:=A5V (c:=ms[u]) hr p2 wf;have⟨O,t1,t2,t3⟩:=A5V (i:=u) (c:=ms[p]) s2 (by rw[List.length_set];exact x) s3;simp only[A0k x,A0k p2,B1,R x,R p2,s1,BK,t1];rw[CW (by omega)];have M:((ms.set p ms[u]).set u ms[p]).length=ms.length:=by simp
  have d:((ms.set p ms[u]).set u ms[p]).Perm ms:=List.set_set_perm p2 x;have N:Bp O Ab 68 (.sl 68 r 0 ms.length) ((ms.set p ms[u]).set u ms[p]).length (((ms.set p ms[u]).set u ms[p]).flatMap Cd.cs):=by
   refine .inr ⟨r,q,by rw[M],t2,?_⟩;exact jV (λc=>CY (c:=c)) _
  exact B6D f X w fuel (i+1) _ _ O (by omega) (by omega) (d.trans s) N t3
end
end
section
set_option maxHeartbeats 4000000
variable{k:AV->AV->AV->AV->AV->AV->AV->AV->AV->AV->AV->AV->AV->AV->AV->AV->AV->AV->AV->AV->KV}{α:Type}
variable{L n:Nat}
section
variable{H H0 H':Hp}{v a mv nv b1 b2 b3 b4 b5 b6 b7 b8 b9 c1 c2 c3 c4 c5 c6 c7 c8 e1 e2 e3 e4 e5 e6:AV}{gs A Z:ed}{K:KV}{x0:Af}{rc mc:Nat}{miss names:List AN}{s:AN}{w:AV}
def D'(Z:ed)(miss:List AN)(y:AN):Bool:=(JW Z y).any λp=>decide (p∈miss)
def wY{f:α->Bool}{l:List α}{j:Nat}(b:j<l.length):(l.take (j+1)).any f=((l.take j).any f||f l[j]):=by
 rw[nL b,List.any_append];simp
def B6E{rd:Nat}{d:Cd}{q:Bool}{b:Bool}(C:40000<L)(hr:Ah H rd=some (.cells q Ab d.cs))(h:rG H mv miss)(g:miss.length<900)(B:d.ps.length<100)(D:k b1 b2 b3 b4 b5 b6 b7 b8 b9 c1 c2 mv c3 c4 c5 c6 (Bo (b||d.ps.any λp=>decide (p∈miss))) c7 c8 (.ptr rd 0 0) (I d.ps.length) H=x0):
 ∀(fuel j:Nat)(f:Bool),d.ps.length<fuel+j->j<=d.ps.length->f=(b||(d.ps.take j).any λp=>decide (p∈miss))->
  I8 (L+20) (r! L (n+86)) K k fuel b1 b2 b3 b4 b5 b6 b7 b8 b9 c1 c2 mv c3 c4 c5 c6 (Bo f) c7 c8 (.ptr rd 0 0) (I j) H=x0
 |0,j,f,h1,h2,_=>by omega
 |fuel+1,j,f,h1,h2,u=>by
  rw[UY];unfold KG DN OV Fg A4 Ks;have i:∀{F:K2},AE Ac (.ptr rd 31 0) H F=F (Di d.ps):=λ{F}=>by rw[AL (p:=31) rfl hr (by rw[CY];decide),C6e]
  rw[Wh,i,rQ];by_cases y:j<d.ps.length
  ·have e:∀c:Bool,c=(b||(d.ps.take (j+1)).any λp=>decide (p∈miss))->(Aq Ad .add (I (j:Int)) (AV.v (.int .i64 1)) λt=>I8 (L+20) (r! L (n+86)) K k fuel b1 b2 b3 b4 b5 b6 b7 b8 b9 c1 c2 mv c3 c4 c5 c6 (Bo c) c7 c8 (.ptr rd 0 0) t H)=x0:=λc x=>by
    rw[CW (by omega)];exact B6E C hr h g B D fuel (j+1) c (by omega) (by omega) x
   rw[XA2 (by omega),Cy];cases hb:f
   ·have J:∀{F:K2},Ap (r! L (n+86)) J7 [mv,S d.ps[j]] H F=F (Bo (decide (d.ps[j]∈miss))):=λ{F}=>A9E (n:=n+84) h g C;simp only[gT,BK,Wh,i,(Lo d.ps).ia y,JS,J,QA];refine e _ ?_;rw[wY y,<-Bool.or_assoc,<-u,hb,Bool.false_or]
   ·simp only[F!,gU,BK,SJ];refine e true ?_;rw[wY y,<-Bool.or_assoc,<-u,hb,Bool.true_or]
  ·rw[Fk (by omega),AY];have:j=d.ps.length:=by omega
   subst this;rw[rW]at u;rw[u];exact D
def B6F(Y:200000<L)(x:GOk Z)(C:LA Z a)(t:∀y∈names,y∈Z.map Cd.id)(M:names.length<900)(i:SA miss mv)(h:miss.length<900)(P:Wf H0)(Q:∀H' j d1 d2,Wf H'->(∀u y,Ah H0 u=some y->Ah H' u=some y)->k b1 b2 b3 b4 a b5 b6 b7 b8 b9 c1 mv c2 c3 c4 c5 (Bo (names.any (D' Z miss))) nv j d1 d2 H'=x0):
 ∀(fuel j:Nat)(d:Bool)(d1 d2:AV)(H:Hp),names.length<fuel+j->j<=names.length->d=(names.take j).any (D' Z miss)->Bp H Au 1 nv names.length (AF names)->Wf H->(∀u y,Ah H0 u=some y->Ah H u=some y)->
  KC (L+20) (r! L (n+86)) K k fuel b1 b2 b3 b4 a b5 b6 b7 b8 b9 c1 mv c2 c3 c4 c5 (Bo d) nv (I j) d1 d2 H=x0
 |0,j,d,d1,d2,H,h1,h2,_,_,_,_=>by omega
 |fuel+1,j,d,d1,d2,H,h1,h2,B,N,wf,g=>by
  rw[UZ];unfold KH Ia A4;simp only[BF];rw[N.rq.len];by_cases J:j<names.length
  ·have⟨p,p1,p2⟩:=N.ia J;have⟨c,hc,f⟩:=Pu.1 (t _ (Ql J));have Lg:∀{F:K2},Ap (r! L (n+86)) RI [a,S names[j]] H F=F (.tup [.agg c.cs,Bo true]):=λ{F}=>by
    rw[<-f];exact Iw (B7X (n:=n+21) x (by omega) C hc) (Al (C.fx H) (Al (q:=false) C7 AD))
   rw[XA2 (by omega),Cy,p1,p2,Lg,EG,EF,Bv (cs:=BI) rfl,BO (cs:=BI) (vs:=c.cs) (Ay (by simp)) CY rfl Ja];have⟨X,e2,D,w2,R⟩:=GC (e:=Ab) (zs:=BI) (vs:=c.cs) wf CY;rw[<-e2];have aa:=Q7 (x.ok c hc);refine B6E (n:=n) (b:=d) (by omega) D (.inl i) h (by omega) ?_ (L+20) 0 d (by omega) (by omega) (by simp);show(Aq Ad .add (I (j:Int)) (AV.v (.int .i64 1)) λV=>_)=x0;rw[CW (by omega)];refine B6F Y x C t M i h P Q fuel (j+1) _ _ _ X (by omega) (by omega) ?_ (N.kp λu y _ O=>(R u y O).1) w2 (λu y O=>(R u y (g u y O)).1);rw[wY J,<-B];unfold D';rw[<-f,QB x.ids hc]
  ·rw[Fk (by omega),AY];have:j=names.length:=by omega
   subst this;rw[rW]at B;rw[B];exact Q H _ _ _ wf g
def B1p(i:GOk Z)(g:∀x∈Z.map Cd.id,¬Anc Z x x){x:AN}(q:x∈Z.map Cd.id):(eB Z x++[x]).any (D' Z (J0 Z))=@decide (¬Cmp Z x) (Classical.propDecidable _):=by
 rw[qW,@decide_eq_true_iff _ (_),List.any_eq_true,B6h i.ids g q];constructor
 ·rintro⟨y,b,j⟩ f;unfold D' at j;have⟨p,d,hm⟩:=List.any_eq_true.1 j;have hm:=l2y hm;refine(Qh.1 hm).1 (f y ?_ p d);rcases dV.1 b with b|b
  ·exact .inr (ZC.1 b)
  ·exact .inl (XY.1 b)
 ·intro hn;have hn:∃y,(y=x\/Anc Z x y)/\∃p∈JW Z y,p∉Z.map Cd.id:=by
   refine l37 λhc=>hn λy b p d=>l37 λe=>hc ⟨y,b,p,d,e⟩
  have⟨y,b,p,d,e⟩:=hn;refine⟨y,?_,?_⟩
  ·rcases b with rfl|b
   ·simp
   ·exact List.mem_append_left _ (ZC.2 b)
  ·unfold D';refine List.any_eq_true.2 ⟨p,d,Hu (Qh.2 ⟨e,?_⟩)⟩;have h:y∈Z.map Cd.id:=by
    rcases b with rfl|b
    ·exact q
    ·exact b.ids
   obtain⟨c,hc,rfl⟩:=Pu.1 h;rw[QB i.ids hc]at d;exact⟨c,hc,d⟩
def B6G{k:AV->AV->AV->AV->AV->KV}{e:Int}(hw:Vo 6 w w=true)(hL:200000<L)(d:GOk Z)(O:LA Z a)(P:e=0->∀x∈Z.map Cd.id,¬Anc Z x x)(ah:Wf H0)(R:StAt H0 rc mc Z)(hx:∀H',(∀u y,Ah H0 u=some y->Ah H' u=some y)->k b3 a b7 b8 (.ptr rc 0 0) (MO Z) H'=some (w,[])):
 ∀(fuel i:Nat)(H:Hp)(e1 e2 e3 e4 e5 e6:AV),Z.length<fuel+i->i<=Z.length->Wf H->(∀u y,Ah H0 u=some y->Ah H u=some y)->
  KD (L+20) (r! L (n+86)) K k fuel b1 b2 b3 b4 a b5 b6 b9 b7 b8 (.ptr rc 0 0) (Di (J0 Z)) (MO Z) (I e) (I i) e1 e2 e3 e4 e5 e6 H=some (w,[])
 |0,i,H,e1,e2,e3,e4,e5,e6,h1,h2,_,_=>by omega
 |fuel+1,i,H,e1,e2,e3,e4,e5,e6,h1,h2,wf,g=>by
  rw[Va];unfold KI Ia D5 Fg A4 Ks FW;simp only[BF];have ar:=d.len;rw[O.len,DO];by_cases hi:i<Z.length
  rotate_left
  ·simp only[Ir (show¬(i:Int)<(Z.length:Int) by omega),dY,gU,gT,BK,QA];rw[AY];exact hx H g
  have ee:∀{F:K2},Aq Ad .eql (I e) (AV.v (.int .i64 0)) F=F (Bo (decide (e=0))):=λ{F}=>CV;simp only[Hu (show(i:Int)<(Z.length:Int) by omega),gT,BK,ee,SJ];by_cases he:e=0
  rotate_left
  ·rw[Ir he,AY];exact hx H g
  have Q:=P he;rw[Hu he,Cy,O.ia hi,oF];have D:=Ql hi;have J:Z[i].id∈Z.map Cd.id:=List.mem_map_of_mem D;have ac:∀{F:K2},Ap (r! L (n+86)) FK [.agg Z[i].cs] H F=F (S Z[i].id):=λ{F}=>B6J (n:=n+22) (by omega) (p:=.c Z[i]) ⟨d.ok _ D,d.nd _ D⟩;have aq:=A33 (gs:=Z) (s:=Z[i].id);rw[ac];refine B88 (n:=n+6) hw d (by omega) (wQ d) O wf λam ai N ab ak Y M=>?_;have⟨ao,f,h3,h4,h5,h6,h7,h8⟩:=A31 Z[i].id N ab (by omega);rw[h3];have C:∀u y,Ah H u=some y->Ah f u=some y:=λu y B=>h7 u y (Y u y B) λhr=>by
   have:=M u hr;have:=wf.lt B;omega
  have ae:=A4u d;have ax:(NN Z).length<=Z.length:=by
   unfold NN;rw[(Bb _).length_eq];exact fR (l30 _ _) (by rw[QK];exact MC _)
  refine B6F (n:=n) (H0:=f) (names:=eB Z Z[i].id++[Z[i].id]) hL d O (λy X=>?_) (by rw[EN];simp;omega) (Lo _) (by omega) h5 (λH2 j d1 d2 w2 k2=>?_) (L+20) 0 false _ _ f (by rw[EN];simp;omega) (by omega) (by simp) h4 h5 (λu y B=>B)
  ·rcases dV.1 X with X|X
   ·exact(ZC.1 X).ids
   ·rw[XY.1 X];exact J
  rw[B1p d Q J];have V:=R.keep λu y B=>k2 u y (C u y (g u y B));have hW:decide (Z[i].id∈NN Z)=@decide (¬Cmp Z Z[i].id) (Classical.propDecidable _):=by
   rw[qW,@decide_eq_true_iff _ (_),@decide_eq_true_iff _ (_),lJ];exact⟨λh=>h.2,λh=>⟨J,h⟩⟩
  have hI:decide (Z[i].id∈(L3 Z).map Cd.id)= !@decide (¬Cmp Z Z[i].id) (Classical.propDecidable _):=by
   have hc:Z[i].id∈(L3 Z).map Cd.id↔Cmp Z Z[i].id:=by
    rw[((wZ d).map Cd.id).mem_iff,QT]
   by_cases h:Cmp Z Z[i].id
   ·rw[Hu (hc.2 h),@decide_eq_false _ (_) (λhn=>hn h)];rfl
   ·rw[Ir (λhh=>h (hc.1 hh)),@decide_eq_true _ (_) h];rfl
  generalize @decide (¬Cmp Z Z[i].id) (Classical.propDecidable _)=b at hW hI;have ag:∀{F:K2},Ap (r! L (n+86)) J7 [MO Z,S Z[i].id] H2 F=F (Bo b):=λ{F}=>by
   rw[A9E (n:=n+84) (.inl sX) (by omega) (by omega),hW]
  have af:(b !=b)=false:=by cases b<;>rfl
  have heq:(b== !b)=false:=by cases b<;>rfl
  show(Ap (r! L (n+86)) J7 [MO Z,S Z[i].id] H2 λap=>_)=_;rw[ag,C5M,af];simp only[gT,BK];refine A9A (n:=n+3) (K:=λv H=>some (v,H)) (PP:=λq=>Ei q _=some (w,[])) d hL V.sv w2 λaa t hN z0=>?_;have aj:=(xA d).len;have ad:∀{F:K2},Ap (r! L (n+86)) J7 [aa,S Z[i].id] t F=F (Bo (!b)):=λ{F}=>by
   rw[A9E (n:=n+84) (.inr (hN.sat λe=>z0 (List.map_eq_nil_iff.1 e))) (by rw[QK];omega) (by omega),hI]
  simp only[BK,ad,C6b,heq,QA];rw[AY,CW (by omega)];exact B6G hw hL d O P ah R hx fuel (i+1) t _ _ _ _ _ _ (by omega) (by omega) hN.wf λu y B=>hN.keep u y (k2 u y (C u y (g u y B)))
def A7W{α β:Type}{p:α->Bool}{f:α->β}{q:β->Bool}(h:∀c,q (f c)= !p c):∀l:List α,(l.filter p).length+((l.map f).filter q).length=l.length:=by
 intro l
 induction l with
 |nil=>rfl
 |cons c l ih=>
  rw[X0,l2m,l2m,h c];cases p c<;>simp<;>omega
def B31(b:GOk Z):(L3 Z).length+(NN Z).length=Z.length:=by
 rw[(wZ b).length_eq];unfold NN;rw[(Bb _).length_eq];unfold Hd;refine A7W (λc=>?_) Z;by_cases h:Cmp Z c.id
 ·rw[@decide_eq_false _ (_) (λhn=>hn h),@decide_eq_true _ (_) h];rfl
 ·rw[@decide_eq_true _ (_) h,@decide_eq_false _ (_) h];rfl
def B6u(d:GOk Z)(h:A.Perm Z):L3 A=L3 Z:=by
 have b:=d.perm h;have e:=A8G b.ids h;rw[T9 b.ids,T9 d.ids]at e;unfold L3;rw[e];have hi:=(QC (gs:=Hd Z)).1.ids;generalize R5 (Hd Z)=l at hi
 induction l with
 |nil=>rfl
 |cons x l ih=>
  obtain⟨c,hc,rfl⟩:=Pu.1 (QT.1 (hi x (by simp))).ids;rw[List.filterMap_cons,List.filterMap_cons,FH d.ids hc,FH b.ids (h.mem_iff.2 hc),ih λy f=>hi y (by simp[f])]
def A9g(b:GOk Z)(h:A.Perm Z):MO A=MO Z:=by
 unfold MO;rw[A3A (b.perm h).ids h];have e:A=[]↔Z=[]:=by rw[<-List.length_eq_zero_iff,<-List.length_eq_zero_iff,h.length_eq]
 by_cases hz:Z=[]
 ·rw[Dv hz,Dv (e.2 hz)]
 ·rw[CL hz,CL (λq=>hz (e.1 q))]
end
end
section
set_option maxHeartbeats 4000000
variable{a:AV}{gs:ed}
variable{L n:Nat}
section
variable{K:KV}
def B6a{H:Hp}{F:Nat->Is->Af}(h:LA gs a):Tw H a F=F gs.length (gs.flatMap Cd.cs):=by
 rcases h with rfl|⟨rfl,rfl⟩<;>exact r_ rfl
def A9Z(h:LA gs a):(YD Am.d&&Sj 68 a)=true:=by
 rcases h with rfl|⟨rfl,rfl⟩<;>rfl
def B5k(gs:ed):∃(v:AV)(e:Int),YS gs=.tup [v,.v (.int .i64 e)]/\((e=0/\gs.length<=(R5 gs).length/\v=Di (R5 gs))\/(e≠0/\¬gs.length<=(R5 gs).length/\v=Aw)):=by
 unfold YS;by_cases h:gs.length<=(R5 gs).length
 ·rw[Dv h];exact⟨_,0,rfl,.inl ⟨rfl,h,rfl⟩⟩
 ·rw[CL h];exact⟨_,220,rfl,.inr ⟨by decide,h,rfl⟩⟩
def A19{xs:List Y7}{a0 sw:AV}{z:Int}{ws:List Int}(m:200000<L)(hx:XA xs a0)(aa:∀y∈xs,y.Ok)(hz:Kv z)(hf:NA ws sw)(hK:∀H0,K (Bo true) H0=some (Bo true,[])):(r! L (n+87)).call PF [a0,I z,sw] [] K=some (Bo true,[]):=by
 rw[VL];unfold Lv D5 Fg A4 Ks FW;have⟨C,r⟩:=B1G xs (min 8 xs.length) (by omega);have ab:Fx true depth a0 a0 [] false:=by
  rcases hx with rfl|⟨_,rfl⟩
  ·exact OW
  ·exact C7
 rw[B2K m,Iw (B0F (n:=n+21) (by omega) hx aa) (Al ab AD)];generalize QV xs (min 8 xs.length)=gs at C r;simp only[BF];refine A9b (n:=n) C hz (OS gs) (λv8 J t ap=>?_) (L+20) 0 [] Aw [] (by have:=C.len;omega) (by omega) rfl (by simp) (.inl ⟨rfl,rfl,rfl⟩) Ft;have b:GOk (iI z 0 gs):=C.sub B06;generalize iI z 0 gs=Z at t b;have Y:=b.len;have⟨h,f,f1,f2,f3⟩:=B7k t;show(zE v8 J λh f=>_)=_;rw[f1,C6I];have aq:=f3.wf ap;have ar:=AG (x:=.cells false Ab []) aq;have V:Bp ((Ar f,Row.cells false Ab [])::f) Ab 68 (.sl 68 (Ar f) 0 0) 0 []:=.inr ⟨Ar f,false,rfl,Ay (by simp),rfl⟩;have⟨ak,M,g1,g2,g3,g4⟩:=apt (ie:=Ae) (i2:=Am) V (λK=>B6a (F:=K) f2) (jV (λc=>CY (c:=c)) Z) (A8x Z) (by decide) rfl (A9Z f2) (by show(0+Z.length)*800<=_;omega) (by omega);rw[g1];rw[JZ,l3b]at g2;refine B6D (n:=n) hf Y (λms am i N D af ax=>?_) (L+20) 0 Z ak M (by omega) (by omega) (List.Perm.refl Z) g2 (g4.wf ar);have X:=b.perm D;have a5:=D.length_eq;have⟨ao,O,q1,q2,q3⟩:=B7k af;show(zE am N λao O=>_)=_;rw[q1];have A:=q3.wf ax;refine hY (n:=n+19) (z:= -1) (by omega) b (by unfold Kv;omega) f2 A λra ma a3 H ea la=>?_;rw[Fm,Pq];have q:=la.wf A;refine hY (n:=n+19) (z:=1048575) (by omega) X (by unfold Kv;omega) q2 q λrb mb a4 sb eb lb=>?_;rw[Fm,Pq];have j:=lb.wf q;refine hY (n:=n+19) (z:=1048575) (by omega) b (by unfold Kv;omega) f2 j λrc mc d sc ec lc=>?_;rw[Fm,Pq];have B:=lc.wf j;rw[A4h]at H;rw[A7K _ 0 (by omega)]at sb sc;have H:=(H.kp lb q).kp lc j;have sb:=sb.kp lc j;simp only[DK,Bool.not_true,gT,BK,QA];rw[AY];have ac:∀{F:K2},Ap (r! L (n+86)) Jw [h] d F=F (Di (J0 Z)):=λ{F}=>AO (zR (n:=n+6) b (by omega) (wQ b) f2) (Al (f2.fx d) AD);have ae:∀{F:K2},Ap (r! L (n+86)) Li [h] d F=F (YS Z):=λ{F}=>AO (A5M (n:=n+6) b m (wQ b) f2) (Al (f2.fx d) AD);have⟨ov,e,he,p⟩:=B5k Z;rw[ac,ZG (n:=n+3) b m sc.sv,ae,he,Fm,Pq];refine B6G (n:=n) (H0:=d) rfl m b f2 (λh0=>?_) B sc (λg k2=>?_) (L+20) 0 d _ _ _ _ _ _ (by omega) (by omega) B (λu y hu=>hu)
 ·rcases p with⟨_,h1,_⟩|⟨h1,_⟩
  ·exact(A1T b.ids).1 h1
  ·exact absurd h0 h1
 have ag:=H.keep k2;have w:=sb.keep k2;have ah:=sc.keep k2;have k:=xA b;have s:GOk []:=⟨by simp,by simp,by simp,by simp⟩
 have P:∀{F:K2},I3 (r! L (n+86)) Bt [.ptr ra 0 0] g F=F (Xy (L3 [])):=λ{F}=>zT (n:=n+4) s m ag.sv;have Q:∀{F:K2},I3 (r! L (n+86)) Bt [.ptr rb 0 0] g F=F (Xy (L3 Z)):=λ{F}=>by rw[<-B6u b D];exact zT (n:=n+4) X m w.sv
 have R:∀{F:K2},I3 (r! L (n+86)) Bt [.ptr rc 0 0] g F=F (Xy (L3 Z)):=λ{F}=>zT (n:=n+4) b m ah.sv;have ay:∀{F:K2},Ap (r! L (n+86)) Cm [.ptr rb 0 0] g F=F (MO Z):=λ{F}=>by rw[<-A9g b D];exact ZG (n:=n+3) X m w.sv
 have ai:∀{F:K2},Ap (r! L (n+86)) L9 [Xy (L3 Z),Xy (L3 Z)] g F=F (Bo true):=λ{F}=>AO (B3K (n:=n+44) k.ok (by have:=k.len;omega) (by omega) (OS _)) (Al ((OS _).fx g) (Al ((OS _).fx g) AD));have az:=B31 b;have aj:∀{F:K2},Ap (r! L (n+86)) Dw [MO Z,MO Z] g F=F (Bo true):=λ{F}=>B3L (n:=n+85) sX (by omega) (by omega);have l0:∀{F:K2},Ba Am (Xy (L3 [])) F=F (I 0):=λ{F}=>(OS (L3 [])).len;have l1:∀{F:K2},Ba Am (Xy (L3 Z)) F=F (I (L3 Z).length):=λ{F}=>(OS _).len;have l2:∀{F:K2},Ba Ac (MO Z) F=F (I (NN Z).length):=λ{F}=>sX.len;have l3:∀{F:K2},Ba Am h F=F (I Z.length):=λ{F}=>f2.len;have z0:∀{F:K2},Aq Ad .eql (I 0) (AV.v (.int .i64 0)) F=F (Bo true):=λ{F}=>eqI;have ad:∀{F:K2},Aq Ad .add (I (L3 Z).length) (I (NN Z).length) F=F (I (Z.length:Int)):=λ{F}=>by
  rw[Dp,CX (by omega) (by omega)]
  congr 3
  omega
 have ez:∀{F:K2},Aq Ad .eql (I (Z.length:Int)) (I (Z.length:Int)) F=F (Bo true):=λ{F}=>eqI;simp only[gT,BK,P,l0,z0,SJ,Q,R,ai,ay,aj,l1,l2,l3,ad,ez];exact hK g
end
end
end Go.Abs
end
noncomputable section
namespace Go.Proofs
open Go.Shelf
def Tryz.lays156_ren:Go.Shelf.Ren:=⟨λ|156=>143|165=>215|166=>138|169=>85|240=>213|241=>267|276=>265|277=>316|n=>n,λ|31=>38|9=>9|3=>3|4=>4|0=>0|20=>20|72=>139|76=>196|70=>136|37=>137|75=>195|127=>207|164=>307|5=>5|80=>150|n=>n,λ|n=>n⟩
def Tryz.lays156:Go.Proofs.Lays.n156 Tryz.prog Tryz.lays156_ren:={
 mixed:=by kernel_rfl
 f156:=Tryz.func143.trans (congrArg some (by kernel_rfl))
 f165:=Tryz.func215.trans (congrArg some (by kernel_rfl))
 f166:=Tryz.func138.trans (congrArg some (by kernel_rfl))
 f169:=Tryz.func85.trans (congrArg some (by kernel_rfl))
 f240:=Tryz.func213.trans (congrArg some (by kernel_rfl))
 f241:=Tryz.func267.trans (congrArg some (by kernel_rfl))
 f276:=Tryz.func265.trans (congrArg some (by kernel_rfl))
 f277:=Tryz.func316.trans (congrArg some (by kernel_rfl))
 t0:=Tryz.underlying0
 a0:=Tryz.isAgg0
 z0:=Tryz.sizeOf0
 v0:=Tryz.zeroValue0
 t3:=Tryz.underlying3
 a3:=Tryz.isAgg3
 z3:=Tryz.sizeOf3
 v3:=Tryz.zeroValue3
 t4:=Tryz.underlying4
 a4:=Tryz.isAgg4
 z4:=Tryz.sizeOf4
 v4:=Tryz.zeroValue4
 t9:=Tryz.underlying9
 a9:=Tryz.isAgg9
 z9:=Tryz.sizeOf9
 v9:=Tryz.zeroValue9
 t20:=Tryz.underlying20
 a20:=Tryz.isAgg20
 z20:=Tryz.sizeOf20
 v20:=Tryz.zeroValue20
 t31:=Tryz.underlying38
 a31:=Tryz.isAgg38
 z31:=Tryz.sizeOf38
 v31:=Tryz.zeroValue38
 t37:=Tryz.underlying137
 a37:=Tryz.isAgg137
 z37:=Tryz.sizeOf137
 v37:=Tryz.zeroValue137
 t70:=Tryz.underlying136
 a70:=Tryz.isAgg136
 z70:=Tryz.sizeOf136
 v70:=Tryz.zeroValue136
 t72:=Tryz.underlying139
 a72:=Tryz.isAgg139
 z72:=Tryz.sizeOf139
 v72:=Tryz.zeroValue139
 t75:=Tryz.underlying195
 a75:=Tryz.isAgg195
 z75:=Tryz.sizeOf195
 v75:=Tryz.zeroValue195
 t76:=Tryz.underlying196
 a76:=Tryz.isAgg196
 z76:=Tryz.sizeOf196
 v76:=Tryz.zeroValue196
 t127:=Tryz.underlying207
 a127:=Tryz.isAgg207
 z127:=Tryz.sizeOf207
 v127:=Tryz.zeroValue207
 t164:=Tryz.underlying307
 a164:=Tryz.isAgg307
 z164:=Tryz.sizeOf307
 v164:=Tryz.zeroValue307}
def Tryz.Builder_Extra_156:Builder.Extra Tryz.prog Tryz.lays156_ren:={
 sizeBuilder:=by kernel_rfl
 liesBuilder:=by kernel_rfl
 t5:=Tryz.underlying5
 a5:=Tryz.isAgg5
 z5:=Tryz.sizeOf5
 v5:=Tryz.zeroValue5
 infoByte:=by kernel_rfl
 cellsByte:=by kernel_rfl
 sizeByte:=by kernel_rfl
 neB5:=by decide}
open Go.RowKit in
def Tryz.strings_Join_none(a:Option Addr)(c:Nat)(sep:ByteArray)(w:World):
 Calls Tryz.prog 143 #[.slice a 0 c,.string sep] w λe w'=>e=.returned (.string ⟨#[]⟩)/\w'=w:=Any.strings_Join_none Tryz.lays156 Tryz.Builder_Extra_156 a c sep w
open Go.RowKit in
def Tryz.strings_Join(bk o c:Nat)(xs:List ByteArray)(sep:ByteArray)(w:World)(hcells:∀(j:Nat)x,xs[j]?=some x->w.cell? ⟨bk,o+j,none⟩=some (.string x))(hbk:bk<w.heap.size)(hN:xs.length<=140737488355328)(hcap:xs.length<=c)(hlen:(Lib.join (xs.map (·.data.toList)) sep.data.toList).length<=140737488355328):
 Calls Tryz.prog 143 #[.slice (some ⟨bk,o,none⟩) xs.length c,.string sep] w λe w'=>e=.returned (.string ⟨(Lib.join (xs.map (·.data.toList)) sep.data.toList).toArray⟩)/\Below w.heap.size w w':=Any.strings_Join Tryz.lays156 Tryz.Builder_Extra_156 bk o c xs sep w hcells hbk hN hcap hlen
def Tryz.lays190_ren:Go.Shelf.Ren:=⟨λ|190=>73|125=>126|258=>125|128=>190|129=>191|302=>181|303=>182|304=>183|305=>184|306=>185|307=>186|308=>187|309=>188|310=>189|333=>246|329=>247|330=>248|334=>249|335=>250|336=>251|344=>297|n=>n,λ|31=>38|9=>9|3=>3|46=>179|0=>0|51=>151|53=>240|4=>4|183=>232|182=>231|131=>236|5=>5|218=>291|222=>275|228=>326|229=>327|n=>n,λ|n=>n⟩
def Tryz.lays190:Go.Proofs.Lays.n190 Tryz.prog Tryz.lays190_ren:={
 mixed:=by kernel_rfl
 f125:=Tryz.func126.trans (congrArg some (by kernel_rfl))
 f128:=Tryz.func190.trans (congrArg some (by kernel_rfl))
 f129:=Tryz.func191.trans (congrArg some (by kernel_rfl))
 f190:=Tryz.func73.trans (congrArg some (by kernel_rfl))
 f258:=Tryz.func125.trans (congrArg some (by kernel_rfl))
 f302:=Tryz.func181.trans (congrArg some (by kernel_rfl))
 f303:=Tryz.func182.trans (congrArg some (by kernel_rfl))
 f304:=Tryz.func183.trans (congrArg some (by kernel_rfl))
 f305:=Tryz.func184.trans (congrArg some (by kernel_rfl))
 f306:=Tryz.func185.trans (congrArg some (by kernel_rfl))
 f307:=Tryz.func186.trans (congrArg some (by kernel_rfl))
 f308:=Tryz.func187.trans (congrArg some (by kernel_rfl))
 f309:=Tryz.func188.trans (congrArg some (by kernel_rfl))
 f310:=Tryz.func189.trans (congrArg some (by kernel_rfl))
 f329:=Tryz.func247.trans (congrArg some (by kernel_rfl))
 f330:=Tryz.func248.trans (congrArg some (by kernel_rfl))
 f333:=Tryz.func246.trans (congrArg some (by kernel_rfl))
 f334:=Tryz.func249.trans (congrArg some (by kernel_rfl))
 f335:=Tryz.func250.trans (congrArg some (by kernel_rfl))
 f336:=Tryz.func251.trans (congrArg some (by kernel_rfl))
 f344:=Tryz.func297.trans (congrArg some (by kernel_rfl))
 t0:=Tryz.underlying0
 a0:=Tryz.isAgg0
 z0:=Tryz.sizeOf0
 v0:=Tryz.zeroValue0
 t3:=Tryz.underlying3
 a3:=Tryz.isAgg3
 z3:=Tryz.sizeOf3
 v3:=Tryz.zeroValue3
 t4:=Tryz.underlying4
 a4:=Tryz.isAgg4
 z4:=Tryz.sizeOf4
 v4:=Tryz.zeroValue4
 t5:=Tryz.underlying5
 a5:=Tryz.isAgg5
 z5:=Tryz.sizeOf5
 v5:=Tryz.zeroValue5
 t9:=Tryz.underlying9
 a9:=Tryz.isAgg9
 z9:=Tryz.sizeOf9
 v9:=Tryz.zeroValue9
 t31:=Tryz.underlying38
 a31:=Tryz.isAgg38
 z31:=Tryz.sizeOf38
 v31:=Tryz.zeroValue38
 t46:=Tryz.underlying179
 a46:=Tryz.isAgg179
 z46:=Tryz.sizeOf179
 v46:=Tryz.zeroValue179
 t51:=Tryz.underlying151
 a51:=Tryz.isAgg151
 z51:=Tryz.sizeOf151
 v51:=Tryz.zeroValue151
 t53:=Tryz.underlying240
 a53:=Tryz.isAgg240
 z53:=Tryz.sizeOf240
 v53:=Tryz.zeroValue240
 t131:=Tryz.underlying236
 a131:=Tryz.isAgg236
 z131:=Tryz.sizeOf236
 v131:=Tryz.zeroValue236
 t182:=Tryz.underlying231
 a182:=Tryz.isAgg231
 z182:=Tryz.sizeOf231
 v182:=Tryz.zeroValue231
 t183:=Tryz.underlying232
 a183:=Tryz.isAgg232
 z183:=Tryz.sizeOf232
 v183:=Tryz.zeroValue232
 t218:=Tryz.underlying291
 a218:=Tryz.isAgg291
 z218:=Tryz.sizeOf291
 v218:=Tryz.zeroValue291
 t222:=Tryz.underlying275
 a222:=Tryz.isAgg275
 z222:=Tryz.sizeOf275
 v222:=Tryz.zeroValue275
 t228:=Tryz.underlying326
 a228:=Tryz.isAgg326
 z228:=Tryz.sizeOf326
 v228:=Tryz.zeroValue326
 t229:=Tryz.underlying327
 a229:=Tryz.isAgg327
 z229:=Tryz.sizeOf327
 v229:=Tryz.zeroValue327}
open Go.Sort Go.RowKit in
def Tryz.slices_Sort_string(blk off cap:Nat)(ss:List (List UInt8))(w:World)(hH:Holds encStr w blk off ss.toArray)(hblk:blk<w.heap.size)(hsz:ss.length<4611686018427387904):
 Calls Tryz.prog 73 #[.slice (some ⟨blk,off,none⟩) ss.length cap] w λe w'=>
  e=.returned (.tuple #[])/\∃n os,w'=grow (putRow encStr (Sort.ahead w n) blk off (ss.mergeSort λx y=>decide (x<=y)).toArray) os:=Any.slices_Sort_string Tryz.lays190 blk off cap ss w hH hblk hsz
def Tryz.lays105_ren:Go.Shelf.Ren:=⟨λ|105=>336|212=>372|99=>373|165=>215|166=>138|170=>84|169=>85|263=>390|264=>391|206=>383|240=>213|241=>267|276=>265|277=>316|n=>n,λ|9=>9|3=>3|4=>4|20=>20|0=>0|46=>179|109=>384|5=>5|72=>139|76=>196|51=>151|146=>397|53=>240|148=>399|70=>136|37=>137|75=>195|127=>207|164=>307|80=>150|n=>n,λ|n=>n⟩
def Tryz.lays105:Go.Proofs.Lays.n105 Tryz.prog Tryz.lays105_ren:={
 mixed:=by kernel_rfl
 f99:=Tryz.func373.trans (congrArg some (by kernel_rfl))
 f105:=Tryz.func336.trans (congrArg some (by kernel_rfl))
 f165:=Tryz.func215.trans (congrArg some (by kernel_rfl))
 f166:=Tryz.func138.trans (congrArg some (by kernel_rfl))
 f169:=Tryz.func85.trans (congrArg some (by kernel_rfl))
 f170:=Tryz.func84.trans (congrArg some (by kernel_rfl))
 f206:=Tryz.func383.trans (congrArg some (by kernel_rfl))
 f212:=Tryz.func372.trans (congrArg some (by kernel_rfl))
 f240:=Tryz.func213.trans (congrArg some (by kernel_rfl))
 f241:=Tryz.func267.trans (congrArg some (by kernel_rfl))
 f263:=Tryz.func390.trans (congrArg some (by kernel_rfl))
 f264:=Tryz.func391.trans (congrArg some (by kernel_rfl))
 f276:=Tryz.func265.trans (congrArg some (by kernel_rfl))
 f277:=Tryz.func316.trans (congrArg some (by kernel_rfl))
 t0:=Tryz.underlying0
 a0:=Tryz.isAgg0
 z0:=Tryz.sizeOf0
 v0:=Tryz.zeroValue0
 t3:=Tryz.underlying3
 a3:=Tryz.isAgg3
 z3:=Tryz.sizeOf3
 v3:=Tryz.zeroValue3
 t4:=Tryz.underlying4
 a4:=Tryz.isAgg4
 z4:=Tryz.sizeOf4
 v4:=Tryz.zeroValue4
 t5:=Tryz.underlying5
 a5:=Tryz.isAgg5
 z5:=Tryz.sizeOf5
 v5:=Tryz.zeroValue5
 t9:=Tryz.underlying9
 a9:=Tryz.isAgg9
 z9:=Tryz.sizeOf9
 v9:=Tryz.zeroValue9
 t20:=Tryz.underlying20
 a20:=Tryz.isAgg20
 z20:=Tryz.sizeOf20
 v20:=Tryz.zeroValue20
 t37:=Tryz.underlying137
 a37:=Tryz.isAgg137
 z37:=Tryz.sizeOf137
 v37:=Tryz.zeroValue137
 t46:=Tryz.underlying179
 a46:=Tryz.isAgg179
 z46:=Tryz.sizeOf179
 v46:=Tryz.zeroValue179
 t51:=Tryz.underlying151
 a51:=Tryz.isAgg151
 z51:=Tryz.sizeOf151
 v51:=Tryz.zeroValue151
 t53:=Tryz.underlying240
 a53:=Tryz.isAgg240
 z53:=Tryz.sizeOf240
 v53:=Tryz.zeroValue240
 t70:=Tryz.underlying136
 a70:=Tryz.isAgg136
 z70:=Tryz.sizeOf136
 v70:=Tryz.zeroValue136
 t72:=Tryz.underlying139
 a72:=Tryz.isAgg139
 z72:=Tryz.sizeOf139
 v72:=Tryz.zeroValue139
 t75:=Tryz.underlying195
 a75:=Tryz.isAgg195
 z75:=Tryz.sizeOf195
 v75:=Tryz.zeroValue195
 t76:=Tryz.underlying196
 a76:=Tryz.isAgg196
 z76:=Tryz.sizeOf196
 v76:=Tryz.zeroValue196
 t109:=Tryz.underlying384
 a109:=Tryz.isAgg384
 z109:=Tryz.sizeOf384
 v109:=Tryz.zeroValue384
 t127:=Tryz.underlying207
 a127:=Tryz.isAgg207
 z127:=Tryz.sizeOf207
 v127:=Tryz.zeroValue207
 t146:=Tryz.underlying397
 a146:=Tryz.isAgg397
 z146:=Tryz.sizeOf397
 v146:=Tryz.zeroValue397
 t148:=Tryz.underlying399
 a148:=Tryz.isAgg399
 z148:=Tryz.sizeOf399
 v148:=Tryz.zeroValue399
 t164:=Tryz.underlying307
 a164:=Tryz.isAgg307
 z164:=Tryz.sizeOf307
 v164:=Tryz.zeroValue307}
def Tryz.Builder_Extra_105:Builder.Extra Tryz.prog Tryz.lays105_ren:={
 sizeBuilder:=by kernel_rfl
 liesBuilder:=by kernel_rfl
 t5:=Tryz.underlying5
 a5:=Tryz.isAgg5
 z5:=Tryz.sizeOf5
 v5:=Tryz.zeroValue5
 infoByte:=by kernel_rfl
 cellsByte:=by kernel_rfl
 sizeByte:=by kernel_rfl
 neB5:=by decide}
open Go.RowKit Go.Lib in
def Tryz.strings_Repeat(s:ByteArray)(c:Nat)(w:World)(hc:c<=9223372036854775807)(hlen:s.size*c<=140737488355328):
 Calls Tryz.prog 336 #[.string s,.int .i64 c] w λe w'=>e=.returned (.string ⟨(Lib.repeatL s.data.toList c).toArray⟩)/\Below w.heap.size w w':=Any.strings_Repeat Tryz.lays105 Tryz.Builder_Extra_105 s c w hc hlen
def Tryz.growS_ren:Go.Shelf.Ren:=⟨λ|4=>211|n=>n,λ|22=>38|25=>9|3=>3|4=>4|9=>9|20=>20|0=>0|n=>n,λn=>n⟩
def Tryz.growS:Go.Proofs.Lays8.n4 Tryz.prog Tryz.growS_ren:={
 mixed:=by kernel_rfl
 f4:=⟨Tryz.f211.name,by kernel_rfl,Tryz.func211.trans (congrArg some (by kernel_rfl))⟩
 t0:=Tryz.underlying0
 a0:=Tryz.isAgg0
 z0:=Tryz.sizeOf0
 v0:=Tryz.zeroValue0
 t3:=Tryz.underlying3
 a3:=Tryz.isAgg3
 z3:=Tryz.sizeOf3
 v3:=Tryz.zeroValue3
 t4:=Tryz.underlying4
 a4:=Tryz.isAgg4
 z4:=Tryz.sizeOf4
 v4:=Tryz.zeroValue4
 t9:=Tryz.underlying9
 a9:=Tryz.isAgg9
 z9:=Tryz.sizeOf9
 v9:=Tryz.zeroValue9
 t20:=Tryz.underlying20
 a20:=Tryz.isAgg20
 z20:=Tryz.sizeOf20
 v20:=Tryz.zeroValue20
 t22:=Tryz.underlying38
 a22:=Tryz.isAgg38
 z22:=Tryz.sizeOf38
 v22:=Tryz.zeroValue38
}
def Tryz.slices_Grow_0(w:World):Calls Tryz.prog 211 #[.slice none 0 0,.int .i64 0] w λe w'=>e=.returned (.slice none 0 0)/\w'=w:=
 Any8.slices_Grow_room Tryz.growS none 0 0 0 w (Nat.le_refl _) (by decide) (by decide) (Nat.le_refl _)
def Tryz.slices_Grow_n(n:Nat)(w:World)(h0:0<n)(h1:n<=1000000):Calls Tryz.prog 211 #[.slice none 0 0,.int .i64 n] w λe w'=>∃(arr:Array Value)(fz:Nat×Nat)(cap:Nat),cap<=arr.size/\e=.returned (.slice (some ⟨w.heap.size,0,none⟩) 0 cap)/\Go.RowKit.Below w.heap.size w w'/\w'.heap[w.heap.size]?=some (.cells arr 9 fz)/\∀i,i<arr.size->¬(fz.1<=i/\i<fz.2):=by
 have hs:(Tryz.prog.info? 9).isSome=true:=by kernel_rfl
 have⟨i0,hi0⟩:=Option.isSome_iff_exists.1 hs
 have hz:(Tryz.prog.info? 9).bind (λi=>i.zero)=some (.string ⟨#[]⟩):=by kernel_rfl
 have hz1:(Tryz.prog.info? 9).map (λi=>i.size)=some 1:=by kernel_rfl
 have hz2:(Tryz.prog.info? 9).map (λi=>i.bytes)=some 16:=by kernel_rfl
 rw[hi0]at hz hz1 hz2
 have hz:i0.zero=some (.string ⟨#[]⟩):=hz
 have hz1:i0.size=1:=Option.some.inj hz1
 have hz2:i0.bytes=16:=Option.some.inj hz2
 refine(Any8.slices_Grow_grow Tryz.growS i0 (.string ⟨#[]⟩) hi0 hz (by rw[hz1];decide) none 0 0 n [] w (Nat.le_refl _) (by omega) (by rw[hz2];omega) (by omega) (by simp) (λ_=>rfl) (λa h=>by cases h)).mono ?_
 rintro e w' ⟨he,hw⟩
 have hzc:∀k,(Builtin.zeroCells (Value.string ⟨#[]⟩).cells k).size=k:=λk=>by
  have e:(Value.string ⟨#[]⟩).cells= #[.string ⟨#[]⟩]:=rfl
  rw[e]
  simp[Builtin.zeroCells]
 have key:∃arr:Array Value,w'=w.drew.alloc (.cells arr 9)/\grownCap w (0+n) 0 (Tryz.growS_ren.t 25)<=arr.size:=⟨_,hw,by
  simp only[Array.size_append,hzc]
  omega⟩
 have⟨arr,hw,hsz⟩:=key
 refine⟨arr,(0,0),_,hsz,he,?_,?_,λi _ h=>Nat.not_lt_zero _ h.2⟩
 ·rw[hw]
  exact((Go.RowKit.Below.refl _ _).drew).alloc (Nat.le_refl _) _
 ·rw[hw]
  show(w.heap.push _)[w.heap.size]?=_
  rw[Array.getElem?_push_size]
end Go.Proofs
end
noncomputable section
namespace Go.Abs
open Go.RowKit Go.Proofs
set_option maxRecDepth 100000
def C4o:eC Tryz.prog 143:=⟨Tryz.f143,by kernel_rfl,by kernel_rfl,by kernel_rfl⟩
def C6a:eC Tryz.prog 73:=⟨Tryz.f73,by kernel_rfl,by kernel_rfl,by kernel_rfl⟩
def C4n:eC Tryz.prog 211:=⟨Tryz.f211,by kernel_rfl,by kernel_rfl,by kernel_rfl⟩
def C4m:eC Tryz.prog 336:=⟨Tryz.f336,by kernel_rfl,by kernel_rfl,by kernel_rfl⟩
def C3j(E:XE):oT.All (N_ E Tryz.prog):=
 ⟨B1H C4n Tryz.slices_Grow_0 Tryz.slices_Grow_n,⟨B1z C4o Tryz.strings_Join_none Tryz.strings_Join,⟨B02 C6a Tryz.slices_Sort_string,trivial,trivial⟩,trivial⟩,⟨A44 C4m Tryz.strings_Repeat,trivial,trivial⟩⟩
def B0e(L n:Nat):RSound tT (E L) Tryz.prog (rt L n):=A4n (C6O L) (C3n L) (C3j _) n
def Y7.vs(y:Y7):List Value:=[.int .i64 y.y0,.int .i64 y.y1,.int .i64 y.y2,.int .i64 y.y3,.int .i64 y.y4,.int .i64 y.y5,.int .i64 y.y6]
def C2h(xs:List Y7):xs.flatMap Y7.cs=(xs.flatMap Y7.vs).map λx=>.v x:=by
 induction xs with
 |nil=>rfl
 |cons y xs ih=>rw[nM,nM,dW,ih];rfl
def B1O{α β:Type}(f:α->List β)(w:Nat)(hf:∀x,(f x).length=w):∀(l:List α)(i j:Nat)(h:i<l.length),j<w->(l.flatMap f)[i*w+j]?=(f l[i])[j]?:=by
 intro l
 induction l with
 |nil=>intro i j h;simp at h
 |cons a l ih=>
  intro i j h hj
  rw[nM]
  cases i with
  |zero=>
   rw[Nat.zero_mul,JZ,l0m (by rw[hf];exact hj)];rfl
  |succ i=>
   have e:(i+1)*w+j=(f a).length+(i*w+j):=by rw[hf,l1e];omega
   rw[e,l0o (by omega),Nat.add_sub_cancel_left,List.getElem_cons_succ]
   exact ih i j (by simpa using h) hj
def G!{α β:Type}(f:α->List β)(w:Nat)(hf:∀x,(f x).length=w):∀l:List α,(l.flatMap f).length=l.length*w:=by
 intro l
 induction l with
 |nil=>simp
 |cons a l ih=>simp[ih,hf,l1e,Nat.add_comm]
def A5b(W:World):Ctx:={π:=λ_=>none,F:=λb _=>b<W.heap.size,B:=λ_=>False}
def B2O{W:World}{b i:Nat}{v:Value}(h:W.cell? ⟨b,i,none⟩=some v):b<W.heap.size:=by
 unfold World.cell? at h
 split at h
 ·rename_i c t f he
  exact(l1v.1 he).1
 ·cases h
def C5D{W:World}{G:Gl}(hG:∀(g:Nat)(cs:List Value),G g=some cs->∀(i:Nat)(v:Value),cs[i]?=some v->W.cell? ⟨g,i,none⟩=some v):Rel G ⟨W,λ_=>False⟩ (A5b W) [] W where
 glob:=λg cs hg i v hv=>⟨B2O (hG g cs hg i v hv),hG g cs hg i v hv⟩
 below:=Keep.refl W _
 lt:=λr x h=>by cases h
 rows:=λr x h=>by cases h
 own:=λr x b o h=>by cases h
 sep:=λr r' x x' b o o' h=>by cases h
 fin:=λb i h=>h
 finB:=λb h=>h.elim
 nx:=λr _=>rfl
def A5O{W:World}{n cap:Nat}{a:Option Addr}{vs:List Value}(hn:n<=cap)(h0:n=0->vs=[])(h:∀i(hi:i<vs.length),∃b o,a=some ⟨b,o,none⟩/\W.cell? ⟨b,o+i,none⟩=some vs[i])(hne:0<n->0<vs.length):VRel (A5b W) W (.list n (vs.map λx=>.v x)) (.slice a n cap):=by
 by_cases h1:n=0
 ·subst h1
  rw[h0 rfl]
  exact .list0
 ·have h2:=hne (by omega)
  obtain⟨b,o,ha, -⟩:=h 0 h2
  subst ha
  have hc:∀i(hi:i<vs.length),W.cell? ⟨b,o+i,none⟩=some vs[i]:=λi hi=>by
   have⟨b',o',e,hc⟩:=h i hi
   cases e
   exact hc
  refine .list hn (λi=>vs.getD i undef) (λi hi=>?_) (λi hi=>?_) (λi hi=>?_)
  ·exact B2O (hc i (by simpa using hi))
  ·have hi':i<vs.length:=by simpa using hi
   rw[hc i hi',TV,KJ hi'];rfl
  ·have hi':i<vs.length:=by simpa using hi
   have:(vs.map λx=>AV.v x)[i]=.v (vs.getD i undef):=by
    rw[l2n,TV,KJ hi'];rfl
   rw[this]
   exact .v _
end Go.Abs
end
noncomputable section
namespace Go.Proofs.YtjbpmepbnkbmfaaGreatDoor
open Go.ChangeShapes Go.WideShapes Go.ChangeAt Go.WideMaps Go.WideElems Go.RowKit Go.Abs
set_option maxRecDepth 100000
def own:ownKnob Tryz.prog.godebug=none:=by kernel_rfl
def A6h:laidOutB Tryz.prog=true:=by kernel_rfl
def u22:Tryz.prog.underlying 22=some (.slice 77):=by kernel_rfl
def u90:Tryz.prog.underlying 77=some (.array 7 3):=by kernel_rfl
def u23:Tryz.prog.underlying 23=some (.slice 3):=by kernel_rfl
def u3:Tryz.prog.underlying 3=some (.int .i64):=by kernel_rfl
def u4:Tryz.prog.underlying 4=some .bool:=by kernel_rfl
def c3:Tryz.prog.cellsOf 3=1:=by kernel_rfl
def c90:Tryz.prog.cellsOf 77=7:=by kernel_rfl
def M'{H:Type}{enc:TypeId×Value->H}{P:Program}{W:World}{base:Nat}{spare:Nat->Bool}{held:Bool}{fuel:Nat}{t e:TypeId}{k:IntKind}{cs:List Value}{ns:List Int}{pl:List MemPlace}(ht:P.underlying t=some (.array ns.length e))(he:P.underlying e=some (.int k))(ce:P.cellsOf e=1)(ct:P.cellsOf t=ns.length)(h:DataW.trod enc P W base spare held fuel t cs=some (.agg (ns.map λz=>.lit (.int k z)),pl)):cs=ns.map λz=>Value.int k z:=by
 have⟨xs,m,_,hx,hlen,hn,hel⟩:=DataW.trod_array ht h
 simp only[Prod.mk.injEq,DataW.agg.injEq]at hx
 have⟨hx,_⟩:=hx
 apply List.ext_getElem
 ·rw[hlen,ct,QK]
 ·intro i h1 h2
  have hi:i<ns.length:=by simpa using h2
  have hxi:i<xs.length:=by omega
  have h0:=hel i hi
  rw[ce,rT,KJ hxi]at h0
  have⟨z,e1,e2,_⟩:=DataW.trod_int he h0
  have e3:(cs.drop i).take 1=[cs[i]]:=by rw[rV h1];rfl
  rw[e3]at e1
  have e4:(ns.map λz=>DataW.lit (H:=H) (.int k z))[i]'(by simpa using hi)=(xs.map (·.1))[i]'(by simpa using hxi):=by simp only[hx]
  rw[l2n,l2n,e2]at e4
  have e5:ns[i]=z:=by simpa using e4
  rw[l2n,e5]
  simpa using e1
def B5m(l:List AV):List Int:=l.map λa=>match a with|.v (.int _ z)=>z|_=>0
def C3E:Rows.laid_yardstick_digest_round (H:=Unit)=.agg ((B5m gl0).map λz=>.lit (.int .u32 z)):=by kernel_rfl
def C3D:Rows.laid_internal_strconv_uint64pow10 (H:=Unit)=.agg ((B5m gl1).map λz=>.lit (.int .u64 z)):=by kernel_rfl
def C4d:gl0.map unV=(B5m gl0).map λz=>Value.int .u32 z:=by kernel_rfl
def C4b:gl1.map unV=(B5m gl1).map λz=>Value.int .u64 z:=by kernel_rfl
def gn0:Tryz.prog.globalNamed "yardstick/digest.round" =some 0:=by kernel_rfl
def gn1:Tryz.prog.globalNamed "internal/strconv.uint64pow10" =some 1:=by kernel_rfl
def B5l{W:World}(h:laidMetH Tryz.prog Rows.exchangeOrderRow.laid W):∀L(g:Nat)(cs:List Value),(E L).G g=some cs->∀(i:Nat)(v:Value),cs[i]?=some v->W.cell? ⟨g,i,none⟩=some v:=by
 rw[MakeChecks.laidMetH_plain _ _ _ (by kernel_rfl)]at h
 have⟨ps,hv,_,_⟩:=h
 have⟨_,_,_,_,_,_,_,_,_,_,hv,_⟩:=hv
 have⟨_,_,_,_,_,_,_,_,_,_,hv,_⟩:=hv
 have⟨g1,t1,cs1,f1,p1,q1,hg1,ht1,hv1,hd1,hv,_⟩:=hv
 have⟨_,_,_,_,_,_,_,_,_,_,hv,_⟩:=hv
 have⟨_,_,_,_,_,_,_,_,_,_,hv,_⟩:=hv
 have⟨_,_,_,_,_,_,_,_,_,_,hv,_⟩:=hv
 obtain⟨g0,t0,cs0,f0,p0,q0,hg0,ht0,hv0,hd0, -,_⟩:=hv
 obtain rfl:=l2b (gn0.symm.trans hg0)
 obtain rfl:=l2b (gn1.symm.trans hg1)
 have tt0:(Tryz.prog.globals[0]?).map (·.type)=some 210:=by kernel_rfl
 have tt1:(Tryz.prog.globals[1]?).map (·.type)=some 364:=by kernel_rfl
 obtain rfl:=l2b (tt0.symm.trans ht0)
 obtain rfl:=l2b (tt1.symm.trans ht1)
 rw[show(Rows.laid_yardstick_digest_round (H:=Unit))=_ from C3E]at hd0
 rw[show(Rows.laid_internal_strconv_uint64pow10 (H:=Unit))=_ from C3D]at hd1
 have k0:=M' (e:=151) (by kernel_rfl) (by kernel_rfl) (by kernel_rfl) (by kernel_rfl) hd0
 have k1:=M' (e:=240) (by kernel_rfl) (by kernel_rfl) (by kernel_rfl) (by kernel_rfl) hd1
 intro L g cs hg i v hvv
 match g,hg with
 |0,hg=>
  have e:(E L).G 0=some (gl0.map unV):=rfl
  rw[e]at hg
  obtain rfl:=l2b hg
  rw[World.var?_cell hg0 hv0 i,<-l27,k0,<-C4d]
  exact hvv
 |1,hg=>
  have e:(E L).G 1=some (gl1.map unV):=rfl
  rw[e]at hg
  obtain rfl:=l2b hg
  rw[World.var?_cell hg1 hv1 i,<-l27,k1,<-C4b]
  exact hvv
 |g+2,hg=>
  exfalso
  have e:(E L).G (g+2)=(glB.get (g+2)).map λcs=>cs.map unV:=rfl
  have e1:Nat.beq (g+2) 1=false:=rfl
  have e2:Nat.blt (g+2) 1=false:=rfl
  have e3:glB.get (g+2)=none:=by
   unfold glB
   simp only[BT.get,e1,e2]
  rw[e,e3]at hg
  cases hg
def A3z{z:Int}(h:(Lit.int .i64 z).wf=true):Kv z:=by
 have h1: -9223372036854775808<=z/\z<=9223372036854775807:=by simpa [Lit.wf,IntKind.min,IntKind.max,IntKind.signed,IntKind.bits] using h
 exact⟨h1.1,by omega⟩
def A4i{H:Type}{enc:TypeId×Value->H}{W:World}{base:Nat}{spare:Nat->Bool}{held:Bool}{fuel:Nat}{cs:List Value}{x:DataW H×List MemPlace}(h:DataW.trod enc Tryz.prog W base spare held fuel 22 cs=some x):
 cs=[.slice none 0 0]\/∃(a:Addr)(cap:Nat)(ys:List Y7),cs=[.slice (some a) ys.length cap]/\ys.length<=cap/\(∀y∈ys,y.Ok)/\∀i(hi:i<(ys.flatMap Y7.vs).length),W.cell? (a.add i)=some (ys.flatMap Y7.vs)[i]:=by
 rcases Deep.open_slice u22 h with⟨h0,_⟩|⟨a,len,cap,m,n,D,Pl,rfl,hb,hl,hm,hmm,rfl,hx⟩
 ·exact .inl h0
 right
 have hlm:len<=m:=by rw[hmm];split<;>omega
 have hrow:∀i,i<len->∃y:Y7,y.Ok/\∀j(hj:j<7),W.cell? (a.add (i*7+j))=(Y7.vs y)[j]?:=by
  intro i hi
  have⟨cs',hc,ht⟩:=hx i (by omega)
  rw[c90]at hc
  have⟨_,hl7,hcell⟩:=World.cells?_some hc
  have⟨xs,m',_,_,_,hn,hel⟩:=DataW.trod_array u90 ht
  have hz:∀j,j<7->∃z:Int,cs'[j]?=some (.int .i64 z)/\Kv z:=by
   intro j hj
   have h0:=hel j hj
   rw[c3,rT,KJ (show j<xs.length by omega)]at h0
   have⟨z,e1,_,e3⟩:=DataW.trod_int u3 h0
   have hj':j<cs'.length:=by omega
   refine⟨z,?_,?_⟩
   ·rw[KJ hj']
    have e4:(cs'.drop j).take 1=[cs'[j]]:=by rw[rV hj'];rfl
    rw[e4]at e1
    have:cs'[j]=.int .i64 z:=by simpa using e1
    rw[this]
   ·exact A3z e3
  have⟨Z,hZ⟩:=Deep.choose_lt hz
  refine⟨⟨Z 0,Z 1,Z 2,Z 3,Z 4,Z 5,Z 6⟩,⟨(hZ 0 (by omega)).2,(hZ 1 (by omega)).2,(hZ 2 (by omega)).2,(hZ 3 (by omega)).2,(hZ 4 (by omega)).2,(hZ 5 (by omega)).2,(hZ 6 (by omega)).2⟩,λj hj=>?_⟩
  have hc2:W.cell? ((a.add (i*7)).add j)=cs'[j]?:=hcell j hj
  rw[Addr.add_add]at hc2
  rw[hc2,(hZ j hj).1]
  obtain rfl|rfl|rfl|rfl|rfl|rfl|rfl:j=0\/j=1\/j=2\/j=3\/j=4\/j=5\/j=6:=by omega
  all_goals rfl
 haveI:Inhabited Y7:=⟨⟨0,0,0,0,0,0,0⟩⟩
 have⟨V,hV⟩:=Deep.choose_lt hrow
 refine⟨a,cap,(List.range len).map V,by simp,by simpa using hl,λy hy=>?_,λi hi=>?_⟩
 ·obtain⟨k,hk,rfl⟩:=Pu.1 hy
  exact(hV k (Lf.1 hk)).1
 ·have h7:(((List.range len).map V).flatMap Y7.vs).length=len*7:=by rw[G! Y7.vs 7 (λ_=>rfl)];simp
  have hi':i<len*7:=by omega
  have hd:i/7<len:=by omega
  have e:=B1O Y7.vs 7 (λ_=>rfl) ((List.range len).map V) (i/7) (i%7) (by simpa using hd) (by omega)
  rw[show i/7*7+i%7=i by omega,KJ hi]at e
  have h1:=(hV (i/7) hd).2 (i%7) (by omega)
  rw[show i/7*7+i%7=i by omega]at h1
  rw[h1,e]
  simp
def M_{W:World}{a:Addr}{v:Value}(h:W.cell? a=some v):a=⟨a.block,a.off,none⟩:=by
 have⟨b,o,sp⟩:=a
 cases sp with
 |none=>rfl
 |some k=>
  unfold World.cell? at h
  split at h
  ·simp at h
  ·cases h
def A36{a:Addr}(i:Nat)(h:a=⟨a.block,a.off,none⟩):a.add i=⟨a.block,a.off+i,none⟩:=by
 rw[h]
 unfold Addr.add
 by_cases hi:i=0
 ·subst hi;rfl
 ·rw[CL hi]
def yB{H:Type}{enc:TypeId×Value->H}{P:Program}{f:Func}{s:ChangeSpec}{apart fresh A04 again:Bool}{W W':World}{args:Array Value}{v:Value}{ds gs:List (DataW H)}{before pa pv:List MemPlace}(hW:DataW.Whole enc P f.params.toList s.vars apart W args.toList ds gs before)(hres:∀(b:Nat)(sp:Nat->Bool)(hd:Bool),DataW.TrodAll enc P W' b sp hd f.resultTypes.toList (v.resultList f.resultTypes.size) (s.fn H (ds++gs)).results [])(hargs:∀sp:Nat->Bool,(∀p∈before,sp p.block=true)->DataW.TrodAll enc P W' 0 sp true f.params.toList args.toList (s.fn H (ds++gs)).args pa)(hvars:∀sp:Nat->Bool,(∀p∈before,sp p.block=true)->DataW.TrodVars enc P W' sp s.vars (s.fn H (ds++gs)).vars pv)(hps:before=pa++pv)(hb:Below W.heap.size W W')(hok:∀(j:Nat)(t:TypeId)(r:Value),f.resultTypes[j]?=some t->(v.resultList f.resultTypes.size)[j]?=some r->Value.okWide P W' .any 0 t r):
 s.post enc P f apart fresh A04 again W args v W':=by
 have hold:∀p∈before,(λb=>decide (b<W.heap.size)) p.block=true:=λp hp=>by simpa using hW.lt p hp
 have hlt:=hW.lt
 refine⟨ds,gs,before,[],pa,pv,hW,hres _ _ _,hargs _ hold,hvars _ hold,World.keptBut_mono (λp hp=>⟨hp,?_⟩) (hb.frame (· ∈before)),λ_=>?_⟩
 ·rw[hps,dV]at hp
  exact Or.inr hp
 ·have⟨_,_,_,_,_,hz,hn⟩:=hW
  refine⟨hok,_,_,([]++pa)++pv,⟨[]++pa,pv,trodAll_append (hargs _ (λ_ _=>rfl)) (hres _ _ _),hvars _ (λ_ _=>rfl),rfl,?_,?_⟩,?_⟩
  ·intro b off hp
   have hm:MemPlace.cell b off∈before:=by rw[hps];simpa using hp
   rw[hb.frozen (hlt _ hm)]
   exact hz b off hm
  ·intro ha
   have:=hn ha
   rw[hps]at this
   simpa using this
  ·intro p hp _
   rw[hps]
   simpa using hp
def B4x{H:Type}{enc:TypeId×Value->H}{W:World}{base:Nat}{spare:Nat->Bool}{held:Bool}{a0:Option Addr}{n0 k0:Nat}{d:DataW H}{p:List MemPlace}(h0:DataW.Trod enc Tryz.prog W base spare held 22 (.slice a0 n0 k0) d p):
 ∃xs:List Y7,(∀y∈xs,y.Ok)/\VRel (A5b W) W (.list xs.length (xs.flatMap Y7.cs)) (.slice a0 n0 k0):=by
 have⟨f,hf⟩:=h0
 rcases A4i hf with hc|⟨a,cap,ys,hc,hle,hok,hcell⟩
 ·simp only[Value.cells,List.cons.injEq,Value.slice.injEq,and_true]at hc
  obtain⟨rfl,rfl,rfl⟩:=hc
  exact⟨[],by simp,.list0⟩
 ·simp only[Value.cells,List.cons.injEq,Value.slice.injEq,and_true]at hc
  obtain⟨rfl,rfl,rfl⟩:=hc
  refine⟨ys,hok,?_⟩
  rw[C2h]
  refine A5O hle (λe=>by rw[gM e];rfl) (λi hi=>?_) (λe=>by rw[G! Y7.vs 7 (λ_=>rfl)];omega)
  have h0:=hcell 0 (by omega)
  have hs:a=⟨a.block,a.off,none⟩:=M_ (v:=(ys.flatMap Y7.vs)[0]'(by omega)) (by simpa [Addr.add] using h0)
  exact⟨a.block,a.off,by rw[<-hs],by rw[<-A36 i hs];exact hcell i hi⟩
def B5B{H:Type}{enc:TypeId×Value->H}{W:World}{base:Nat}{spare:Nat->Bool}{held:Bool}{a2:Option Addr}{n2 k2:Nat}{d:DataW H}{p:List MemPlace}(h2:DataW.Trod enc Tryz.prog W base spare held 23 (.slice a2 n2 k2) d p):
 ∃ws:List Int,(∀z∈ws,Kv z)/\ws.length<9223372036854775808/\VRel (A5b W) W (.list ws.length (Ff ws)) (.slice a2 n2 k2):=by
 have⟨f,hf⟩:=h2
 rcases open_ints u23 u3 c3 hf with⟨hc,_⟩|⟨a,len,cap,zs,hc,_,hle,hmx,hzl,_,hcell,hwf⟩
 ·simp only[Value.cells,List.cons.injEq,Value.slice.injEq,and_true]at hc
  obtain⟨rfl,rfl,rfl⟩:=hc
  exact⟨[],by simp,by decide,.list0⟩
 ·simp only[Value.cells,List.cons.injEq,Value.slice.injEq,and_true]at hc
  obtain⟨rfl,rfl,rfl⟩:=hc
  have hlz:n2<=zs.length:=by rw[hzl];split<;>omega
  have e:Ff (zs.take n2)=((zs.take n2).map λz=>Value.int .i64 z).map λx=>.v x:=by simp only[Ff,List.map_map,List.map_take];rfl
  have el:(zs.take n2).length=n2:=by rw[E!];omega
  refine⟨zs.take n2,λz hz=>A3z (hwf z (l29 hz)),?_,?_⟩
  ·rw[el]
   unfold maxLen at hmx
   omega
  ·rw[el,e]
   refine A5O hle (λe=>by subst e;rfl) (λi hi=>?_) (λe=>by rw[QK,el];exact e)
   have hi2:i<n2:=by rw[QK,el]at hi;exact hi
   have h0:=hcell 0 (by omega)
   have hs:a=⟨a.block,a.off,none⟩:=M_ (v:=.int .i64 (zs.getD 0 0)) (by simpa [Addr.add] using h0)
   refine⟨a.block,a.off,by rw[<-hs],?_⟩
   rw[<-A36 i hs,hcell i (by omega),l2n,List.getElem_take,TV,KJ (by omega)];rfl
end Go.Proofs.YtjbpmepbnkbmfaaGreatDoor
end
noncomputable section
namespace Go.Abs
open Go.RowKit Go.Proofs
set_option maxRecDepth 100000
theorem Zj{W:World}(hG:∀L(g:Nat)(cs:List Value),(E L).G g=some cs->∀(i:Nat)(v:Value),cs[i]?=some v->W.cell? ⟨g,i,none⟩=some v){xs:List Y7}{v0:Value}{z1:Int}{ws2:List Int}{u2:Value}(h0:VRel (A5b W) W (.list xs.length (xs.flatMap Y7.cs)) v0)(hok:∀y∈xs,y.Ok)(g1:Kv z1)(g2:VRel (A5b W) W (.list ws2.length (Ff ws2)) u2)(gi2:∀z∈ws2,Kv z)(gl2:ws2.length<9223372036854775808):
 Calls Tryz.prog 3 #[v0,.int .i64 z1,u2] W λe W'=>e=.returned (.bool true)/\Below W.heap.size W W':=by
 obtain⟨L,hL⟩:∃L,200000<L:=⟨200001,by decide⟩
 have h:=A19 (L:=L) (n:=0) (xs:=xs) (a0:=.list xs.length (xs.flatMap Y7.cs)) (K:=λv _=>some (v,[])) hL (.inl rfl) hok g1 ⟨.inl rfl,gl2,gi2⟩ (λ_=>rfl)
 have ac:=((B0e (L+20) (0+87)).call _ _ _ _ _ h).2 ⟨W,λ_=>False⟩ (A5b W) W [v0,.int .i64 z1,u2] (C5D (hG _)) ?_
 ·refine ac.mono λe W' ⟨v,y,C',H',he,hr,hv,_,hq⟩=>?_
  injection hq with hq
  injection hq with hq _
  subst hq
  have hy:y=.bool true:=AQ.1 hv
  subst hy
  have hb:=hr.below
  exact⟨he,hb.os,hb.tape,hb.output,hb.size,λk hk=>hb.block k hk (λhf=>hf)⟩
 ·refine⟨rfl,λi v hv=>?_⟩
  match i,hv with
  |0,hv=>cases hv;exact⟨_,rfl,h0⟩
  |1,hv=>cases hv;exact⟨_,rfl,.v _⟩
  |2,hv=>cases hv;exact⟨_,rfl,g2⟩
end Go.Abs
namespace Go.Proofs.YtjbpmepbnkbmfaaGreatDoor
open Go.ChangeShapes Go.WideShapes Go.ChangeAt Go.WideMaps Go.WideElems Go.RowKit Go.Abs
set_option maxRecDepth 100000
theorem W! :Tryz.f3.params= #[22,3,23]:=by kernel_rfl
theorem Zi(os:Os)(started:os.Started)(H:Type)(enc:TypeId×Value->H):
 ReturnsInHanded {} Tryz.checked os 3 .any (λw args=>(Rows.exchangeOrderSpec.pre enc Tryz.prog Tryz.f3 [] false w args/\laidMetH Tryz.prog Rows.exchangeOrderRow.laid w)/\sizedMet enc Tryz.prog Tryz.f3 (OpenSpec.ofChange Rows.exchangeOrderSpec) false w args)
  (Rows.exchangeOrderSpec.post enc Tryz.prog Tryz.f3 false true false false):=by
 refine returnsInHanded_of_change_and (C:=Tryz.checked) (X:=λw _=>laidMetH Tryz.prog Rows.exchangeOrderRow.laid w) (λ_ _ _ hh h=>h.of_heap hh) own started (by kernel_rfl) Tryz.func3
  (ChangeSpec.witness_shaped (enc:=enc) (C:=Tryz.checked) (os:=os) (X:=λw _=>laidMetH Tryz.prog Rows.exchangeOrderRow.laid w) false (World.laidAll Tryz.prog os Rows.exchangeOrderRow.laid) #[.slice none 0 0,.int .i64 0,.slice none 0 0] 8 (World.laidAll_os _ _ _)
   (World.shaped_of_ZipB (by kernel_rfl) (by kernel_rfl)) (by kernel_rfl) (by kernel_rfl) (by kernel_rfl)
   (by rw[MakeChecks.laidMetH_plain _ _ _ (by kernel_rfl)];exact laidMet_laidAll _ (by kernel_rfl) (by kernel_rfl))) ?_
 intro W base args ds gs before hval0 hW _ _ hL _
 have hval:∀(j:Nat)t v,Tryz.f3.params[j]?=some t->args[j]?=some v->Value.okWide Tryz.prog W .any base t v:=hval0
 have hW':=hW
 obtain⟨p,q,hA0,hV,rfl,hfz,hnd⟩:=hW
 have hA:DataW.TrodAll enc Tryz.prog W 0 (λ_=>true) true Tryz.f3.params.toList args.toList ds p:=hA0
 rw[W!]at hA hval
 obtain⟨v0,v1,v2,d0,d1,d2,p0,p1,p2,rfl,rfl,rfl,h0,h1,h2⟩:=trodAll_three hA
 obtain⟨rfl,rfl⟩:=trodVars_none hV
 obtain⟨a0,n0,k0,rfl⟩:=okWide_slice u22 (hval 0 22 v0 rfl rfl)
 obtain⟨z1,rfl,rfl,rfl,wz1⟩:=open_int u3 (hval 1 3 v1 rfl rfl) h1
 obtain⟨a2,n2,k2,rfl⟩:=okWide_slice u23 (hval 2 23 v2 rfl rfl)
 have hG:=B5l hL
 have⟨xs,hok,hx⟩:=B4x h0
 have⟨ws2,hws2,hwl2,hw2⟩:=B5B h2
 refine(Zj hG hx hok (A3z wz1) hw2 hws2 hwl2).mono λe W' ⟨he,hb⟩=>?_
 subst he
 simp only[Vq]at hW'
 have hlt:=hW'.lt
 refine⟨_,rfl,yB (pa:=p0++p2) (pv:=[]) hW' (λ_ _ _=>trodAll_mk1 (shut_bool u4 true)) (λsp hsp=>?_) (λ_ _=>rfl) (by simp) hb (ok_one (by kernel_rfl) rfl (okWide_bool_mk u4 true))⟩
 show DataW.TrodAll enc Tryz.prog W' 0 sp true Tryz.f3.params.toList [.slice a0 n0 k0,.int .i64 z1,.slice a2 n2 k2] [d0,.lit (.int .i64 z1),d2] (p0++p2)
 rw[W!]
 have h9:=trodAll_mk3 (WideElems.Trod_stays A6h (by kernel_rfl) (l2y (by kernel_rfl)) h0 (λx hx=>hb.same (hlt x (by simp[hx]))) (λx hx=>hsp x (by simp[hx])))
  (shut_int u3 wz1)
  (WideElems.Trod_stays A6h (by kernel_rfl) (l2y (by kernel_rfl)) h2 (λx hx=>hb.same (hlt x (by simp[hx]))) (λx hx=>hsp x (by simp[hx])))
 simpa using h9
end Go.Proofs.YtjbpmepbnkbmfaaGreatDoor
end
noncomputable section
namespace Go.Proofs.YtjbpmepbnkbmfaaGreatDoor
open Go.ChangeShapes Go.WideShapes Go.ChangeAt Go.WideMaps Go.WideElems Go.RowKit
set_option maxRecDepth 100000
theorem exchangeOrder_holds:Rows.ExchangeOrderSaid:=
 OpenClaim.holds_of_wide 3 Tryz.f3 rfl rfl rfl rfl rfl rfl rfl ⟨rfl,rfl,rfl,rfl,rfl⟩ rfl rfl rfl rfl rfl nY Tryz.func3 B6j
  (l2y (by kernel_rfl)) (by unfold Func.isWrapper;first|(rw[Dv (by decide+kernel)];kernel_rfl)|(rw[CL (by decide+kernel)];exact⟨rfl,rfl⟩))
  (λos started H enc _=>Zi os started H enc)
theorem C5V:Rows.exchangeOrderRow.wfByText (OpenSpec.ofChange Rows.exchangeOrderSpec)=true:=by kernel_rfl
theorem C0K:Tryz.pinned.checked.prog.mainIs=some (true, "9d397490fe1965c59dfbd9be9e62f2259cc2aefe69388ace6f04daff742d3f2b".toList):=by kernel_rfl
theorem B5z:true=Tryz.pinned.checked.prog.looks []:=by kernel_rfl
theorem A6b:Tryz.prog.funcs.any Func.goes=false:=by kernel_rfl
theorem C0L:false=Rows.exchangeOrderRow.goesBy Tryz.pinned.checked.prog:=by
 have h1:∀l:List FuncId,(l.any λg=>(Tryz.prog.funcs[g]?).any Func.goes)=false:=by
  intro l
  rw[List.any_eq_false]
  intro g _
  cases hg:Tryz.prog.funcs[g]? with
  |none=>simp
  |some fn=>
   have h2:=Array.any_eq_false.1 A6b
   have⟨hlt,e⟩:=l1v.1 hg
   have:=h2 g hlt
   rw[e]at this
   simpa using this
 have h3:Tryz.prog.goes 3=false:=by
  unfold Program.goes
  rw[h1,A6b,Bool.and_false,Bool.or_false]
 have hs:Rows.exchangeOrderRow.start=.entering:=rfl
 have hp:Tryz.pinned.checked.prog=Tryz.prog:=rfl
 have hn:Tryz.prog.funcNamed Rows.exchangeOrderRow.func=some 3:=nY
 unfold OpenClaim.goesBy Program.goesAt Program.goesFrom
 rw[hs,hp,hn,Option.any_some,h3]
 rfl
theorem B5y:([22,3,23].all λu=>!Tryz.prog.wantsStandIn u)=true:=by kernel_rfl
theorem exchangeOrder_card:Rows.ExchangeOrderCardSaid:=
 Claim7.holds_tied_plain_at .later [] [.data,.data,.data,.data,.sentinel,.sentinel,.data,.pinned] true (true, "9d397490fe1965c59dfbd9be9e62f2259cc2aefe69388ace6f04daff742d3f2b") true
  exchangeOrder_holds (λ_ h=>by cases h) C5V (λ_ h=>by cases h) exchangeOrder_row_tie rfl ⟨rfl,rfl⟩ C0K rfl
  (λf fn hf hfn=>by
   obtain rfl:f=3:=l2b (nY.symm.trans hf)|>.symm
   obtain rfl:fn=Tryz.f3:=(l2b (Tryz.func3.symm.trans hfn)).symm
   exact⟨B5z,λj t ht=>by
    rw[W!]at ht
    have hm:t∈[22,3,23]:=by simpa using Array.mem_of_getElem? ht
    exact(show Tryz.prog.wantsStandIn t=false by simpa using G9.1 B5y t hm)⟩)
  C0L
end Go.Proofs.YtjbpmepbnkbmfaaGreatDoor
end
