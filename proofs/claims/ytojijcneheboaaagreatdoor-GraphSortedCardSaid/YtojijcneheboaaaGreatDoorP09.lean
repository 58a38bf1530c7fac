import Derived.Test.YtojijcneheboaaaGreatDoorP08
set_option linter.all false
set_option maxHeartbeats 0
noncomputable section
namespace Go.Abs
open Go.RowKit Go.Proofs
set_option maxRecDepth 100000
section
variable{f:Nat}{R:Rt}
def Jc(a:Af):Bool:=match a with
 |some (.v (.bool true),_)=>true
 |_=>false
def CU(R:Rt)(f:Nat)(args:Is):Af:=R.call f args [] λv a=>I5 true a depth v λ_ c=>some (c,[])
def B3{args:Is}{v:AV}(d:∀H,Py true depth args args H false)(h:Jc (AS (CU R f args) v)=true):PS R f args v:=by
 intro H K;have h1:∃a,AS (CU R f args) v=some (.v (.bool true),a):=by
  unfold Jc at h;split at h
  ·rename_i hq;exact⟨_,hq⟩
  ·cases h
 obtain⟨a,h1⟩:=h1;obtain⟨g,h2⟩:=oG h1;unfold Aj;rw[d];unfold CU at h2;show Am (R.call f args [] λv c=>I5 true c depth v λ_ e=>some (e,[])) K=K v;rw[h2];rfl
def qN{f N:Nat}{args:Nat->Is}{val:Nat->AV}(a:∀i H,Py true depth (args i) (args i) H false)(hc:((List.range N).all λi=>Jc (AS (CU R f (args i)) (val i)))=true):∀i,i<N->PS R f (args i) (val i):=λi c=>
 B3 (a i) (G8.1 hc i (JM.2 c))
def A97:Nat->Nat->Ha
 |0,_=>[]
 |f+1,z=>if z<128 then[UInt8.ofNat z] else UInt8.ofNat (z%128+128)::A97 f (z/128)
def zig(n:Int):Nat:=if n<0 then(-2*n-1).toNat else(2*n).toNat
def enc(n:Int):Ha:=A97 9 (zig n)
def xJ(L n:Nat):((List.range 1100).all λi=>Jc (AS (CU (r! L (n+4)) RO [I ((i:Int)-10)]) (.tup [S (enc ((i:Int)-10)),I 0])))=true:=by kernel_rfl
def A1f(L n:Nat):((List.range 100).all λi=>Jc (AS (CU (r! L (n+8)) JN [I ((i:Int)-10)]) (.tup [S (enc ((i:Int)-10)),I 0])))=true:=by kernel_rfl
def A1e(L n:Nat):((List.range 100).all λi=>Jc (AS (CU (r! L (n+8)) JN [I ((i:Int)+90)]) (.tup [S (enc ((i:Int)+90)),I 0])))=true:=by kernel_rfl
def A1d(L n:Nat):((List.range 100).all λi=>Jc (AS (CU (r! L (n+8)) JN [I ((i:Int)+190)]) (.tup [S (enc ((i:Int)+190)),I 0])))=true:=by kernel_rfl
def A1c(L n:Nat):((List.range 100).all λi=>Jc (AS (CU (r! L (n+8)) JN [I ((i:Int)+290)]) (.tup [S (enc ((i:Int)+290)),I 0])))=true:=by kernel_rfl
def Q?(L n:Nat){z:Int}(a: -10<=z)(h1:z<1090):PS (r! L (n+4)) RO [I z] (.tup [S (enc z),I 0]):=by
 have:=qN (args:=λi=>[I ((i:Int)-10)]) (λi H=>fx1) (xJ L n) (z+10).toNat (by omega);have e:(((z+10).toNat:Nat):Int)-10=z:=by omega
 rw[e]at this;exact this
def J!(L n:Nat){z:Int}(a: -10<=z)(h1:z<390):PS (r! L (n+8)) JN [I z] (.tup [S (enc z),I 0]):=by
 by_cases h2:z<90
 ·have:=qN (args:=λi=>[I ((i:Int)-10)]) (λi H=>fx1) (A1f L n) (z+10).toNat (by omega);have e:(((z+10).toNat:Nat):Int)-10=z:=by omega
  rw[e]at this;exact this
 ·by_cases c:z<190
  ·have:=qN (args:=λi=>[I ((i:Int)+90)]) (λi H=>fx1) (A1e L n) (z-90).toNat (by omega);have e:(((z-90).toNat:Nat):Int)+90=z:=by omega
   rw[e]at this;exact this
  ·by_cases d:z<290
   ·have:=qN (args:=λi=>[I ((i:Int)+190)]) (λi H=>fx1) (A1d L n) (z-190).toNat (by omega);have e:(((z-190).toNat:Nat):Int)+190=z:=by omega
    rw[e]at this;exact this
   ·have:=qN (args:=λi=>[I ((i:Int)+290)]) (λi H=>fx1) (A1c L n) (z-290).toNat (by omega);have e:(((z-290).toNat:Nat):Int)+290=z:=by omega
    rw[e]at this;exact this
end
end Go.Abs
end
