import Derived.Test.YthffkeagibaidaaGreatDoorP09
set_option linter.all false
set_option maxHeartbeats 0
noncomputable section
namespace Go.Abs
open Go.RowKit Go.Proofs
set_option maxRecDepth 100000
section
variable{f:Nat}{R:Rt}
def HU(a:Af):Bool:=match a with
 |some (.v (.bool true),_)=>true
 |_=>false
def C8(R:Rt)(f:Nat)(args:Is):Af:=R.call f args [] λv a=>IG true a depth v λ_ c=>some (c,[])
def Bp{args:Is}{v:AV}(d:∀H,Qi true depth args args H false)(h:HU (AN (C8 R f args) v)=true):PS R f args v:=by
 intro H K;have h1:∃a,AN (C8 R f args) v=some (.v (.bool true),a):=by
  unfold HU at h;split at h
  ·rename_i hq;exact⟨_,hq⟩
  ·cases h
 obtain⟨a,h1⟩:=h1;obtain⟨g,h2⟩:=iU h1;unfold Ak;rw[d];unfold C8 at h2;show Ai (R.call f args [] λv c=>IG true c depth v λ_ e=>some (e,[])) K=K v;rw[h2];rfl
def B4L{f N:Nat}{args:Nat->Is}{val:Nat->AV}(a:∀i H,Qi true depth (args i) (args i) H false)(hc:((List.range N).all λi=>HU (AN (C8 R f (args i)) (val i)))=true):∀i,i<N->PS R f (args i) (val i):=λi c=>
 Bp (a i) (Gb.1 hc i (I2.2 c))
def I?(L n:Nat):((List.range 10).all λi=>HU (AN (C8 (r! L (n+8)) Kj [I ((i:Int)-10)]) (.tup [S (enc ((i:Int)-10)),I 0])))=true:=by kernel_rfl
def wL(L n:Nat){z:Int}(a: -10<=z)(h1:z<200000):PS (r! L (n+4)) LH [I z] (.tup [S (enc z),I 0]):=B3G (n:=n+2) (by omega) (by omega)
def vL(L n:Nat){z:Int}(a: -10<=z)(h1:z<200000):PS (r! L (n+8)) Kj [I z] (.tup [S (enc z),I 0]):=by
 by_cases h2:z<0
 ·have:=B4L (args:=λi=>[I ((i:Int)-10)]) (λi H=>fx1) (I? L n) (z+10).toNat (by omega);have e:(((z+10).toNat:Nat):Int)-10=z:=by omega
  rw[e]at this;exact this
 ·exact B1v (n:=n+4) (by omega) (by omega)
end
end Go.Abs
end
