import Derived.Test.YtjbpmepbnkbmfaaGreatDoorP07
set_option linter.all false
set_option maxHeartbeats 0
noncomputable section
namespace Go.Abs
open Go.RowKit Go.Proofs
set_option maxRecDepth 100000
section
variable{f:Nat}{R:Rt}
def JY(a:Af):Bool:=match a with
 |some (.v (.bool true),_)=>true
 |_=>false
def Dz(R:Rt)(f:Nat)(args:Is):Af:=R.call f args [] λv a=>HU true a depth v λ_ b=>some (b,[])
def BM{args:Is}{v:AV}(c:∀H,RZ true depth args args H false)(h:JY (Bj (Dz R f args) v)=true):PS R f args v:=by
 intro H K;have h1:∃a,Bj (Dz R f args) v=some (.v (.bool true),a):=by
  unfold JY at h;split at h
  ·rename_i hq;exact⟨_,hq⟩
  ·cases h
 have⟨a,h1⟩:=h1;have⟨e,h2⟩:=tR h1;unfold Ap;rw[c];unfold Dz at h2;show Ax (R.call f args [] λv b=>HU true b depth v λ_ d=>some (d,[])) K=K v;rw[h2];rfl
def vY{f N:Nat}{args:Nat->Is}{val:Nat->AV}(a:∀i H,RZ true depth (args i) (args i) H false)(hc:((List.range N).all λi=>JY (Bj (Dz R f (args i)) (val i)))=true):∀i,i<N->PS R f (args i) (val i):=λi hi=>
 BM (a i) (G9.1 hc i (Lf.2 hi))
def B25:Nat->Nat->Ha
 |0,_=>[]
 |f+1,z=>if z<128 then[UInt8.ofNat z] else UInt8.ofNat (z%128+128)::B25 f (z/128)
def zig(n:Int):Nat:=if n<0 then(-2*n-1).toNat else(2*n).toNat
def enc(n:Int):Ha:=B25 9 (zig n)
def V'(L n:Nat):((List.range 1100).all λi=>JY (Bj (Dz (r! L (n+4)) Ts [I ((i:Int)-10)]) (.tup [S (enc ((i:Int)-10)),I 0])))=true:=by kernel_rfl
def A3E(L n:Nat):((List.range 100).all λi=>JY (Bj (Dz (r! L (n+8)) Lh [I ((i:Int)-10)]) (.tup [S (enc ((i:Int)-10)),I 0])))=true:=by kernel_rfl
def A3D(L n:Nat):((List.range 100).all λi=>JY (Bj (Dz (r! L (n+8)) Lh [I ((i:Int)+90)]) (.tup [S (enc ((i:Int)+90)),I 0])))=true:=by kernel_rfl
def A3C(L n:Nat):((List.range 100).all λi=>JY (Bj (Dz (r! L (n+8)) Lh [I ((i:Int)+190)]) (.tup [S (enc ((i:Int)+190)),I 0])))=true:=by kernel_rfl
def A3B(L n:Nat):((List.range 100).all λi=>JY (Bj (Dz (r! L (n+8)) Lh [I ((i:Int)+290)]) (.tup [S (enc ((i:Int)+290)),I 0])))=true:=by kernel_rfl
def A1G(L n:Nat){z:Int}(a: -10<=z)(h1:z<1090):PS (r! L (n+4)) Ts [I z] (.tup [S (enc z),I 0]):=by
 have:=vY (args:=λi=>[I ((i:Int)-10)]) (λi H=>fx1) (V' L n) (z+10).toNat (by omega);have e:(((z+10).toNat:Nat):Int)-10=z:=by omega
 rw[e]at this;exact this
def A18(L n:Nat){z:Int}(a: -10<=z)(h1:z<390):PS (r! L (n+8)) Lh [I z] (.tup [S (enc z),I 0]):=by
 by_cases h2:z<90
 ·have:=vY (args:=λi=>[I ((i:Int)-10)]) (λi H=>fx1) (A3E L n) (z+10).toNat (by omega);have e:(((z+10).toNat:Nat):Int)-10=z:=by omega
  rw[e]at this;exact this
 ·by_cases b:z<190
  ·have:=vY (args:=λi=>[I ((i:Int)+90)]) (λi H=>fx1) (A3D L n) (z-90).toNat (by omega);have e:(((z-90).toNat:Nat):Int)+90=z:=by omega
   rw[e]at this;exact this
  ·by_cases c:z<290
   ·have:=vY (args:=λi=>[I ((i:Int)+190)]) (λi H=>fx1) (A3C L n) (z-190).toNat (by omega);have e:(((z-190).toNat:Nat):Int)+190=z:=by omega
    rw[e]at this;exact this
   ·have:=vY (args:=λi=>[I ((i:Int)+290)]) (λi H=>fx1) (A3B L n) (z-290).toNat (by omega);have e:(((z-290).toNat:Nat):Int)+290=z:=by omega
    rw[e]at this;exact this
end
end Go.Abs
end
