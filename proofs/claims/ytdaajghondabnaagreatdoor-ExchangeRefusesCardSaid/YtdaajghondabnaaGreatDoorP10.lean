import Derived.Test.YtdaajghondabnaaGreatDoorP09
set_option linter.all false
set_option maxHeartbeats 100000000
noncomputable section
namespace Go.Abs
open Go.RowKit Go.Proofs
set_option maxRecDepth 100000
section
variable{f:Nat}{R:Rt}
def JQ(a:Af):Bool:=match a with
 |some (.v (.bool true),_)=>true
 |_=>false
def Du(R:Rt)(f:Nat)(args:Is):Af:=R.call f args [] λv a=>HV true a depth v λ_ b=>some (b,[])
def BJ{args:Is}{v:AV}(c:∀H,R9 true depth args args H false)(h:JQ (Ba (Du R f args) v)=true):PS R f args v:=by
 intro H K;have h1:∃a,Ba (Du R f args) v=some (.v (.bool true),a):=by
  unfold JQ at h;split at h
  ·rename_i hq;exact⟨_,hq⟩
  ·cases h
 obtain⟨a,h1⟩:=h1;obtain⟨e,h2⟩:=tA h1;unfold Ap;rw[c];unfold Du at h2;show Au (R.call f args [] λv b=>HV true b depth v λ_ d=>some (d,[])) K=K v;rw[h2];rfl
def vJ{f N:Nat}{args:Nat->Is}{val:Nat->AV}(a:∀i H,R9 true depth (args i) (args i) H false)(hc:((List.range N).all λi=>JQ (Ba (Du R f (args i)) (val i)))=true):∀i,i<N->PS R f (args i) (val i):=λi b=>
 BJ (a i) (GG.1 hc i (KR.2 b))
def B1r:Nat->Nat->Ha
 |0,_=>[]
 |f+1,z=>if z<128 then[UInt8.ofNat z] else UInt8.ofNat (z%128+128)::B1r f (z/128)
def zig(n:Int):Nat:=if n<0 then(-2*n-1).toNat else(2*n).toNat
def enc(n:Int):Ha:=B1r 9 (zig n)
def O'(L n:Nat):((List.range 1100).all λi=>JQ (Ba (Du (r! L (n+4)) LI [I ((i:Int)-10)]) (.tup [S (enc ((i:Int)-10)),I 0])))=true:=by kernel_rfl
def A3d(L n:Nat):((List.range 100).all λi=>JQ (Ba (Du (r! L (n+8)) KT [I ((i:Int)-10)]) (.tup [S (enc ((i:Int)-10)),I 0])))=true:=by kernel_rfl
def A3c(L n:Nat):((List.range 100).all λi=>JQ (Ba (Du (r! L (n+8)) KT [I ((i:Int)+90)]) (.tup [S (enc ((i:Int)+90)),I 0])))=true:=by kernel_rfl
def A3b(L n:Nat):((List.range 100).all λi=>JQ (Ba (Du (r! L (n+8)) KT [I ((i:Int)+190)]) (.tup [S (enc ((i:Int)+190)),I 0])))=true:=by kernel_rfl
def A3a(L n:Nat):((List.range 100).all λi=>JQ (Ba (Du (r! L (n+8)) KT [I ((i:Int)+290)]) (.tup [S (enc ((i:Int)+290)),I 0])))=true:=by kernel_rfl
def A1h(L n:Nat){z:Int}(a: -10<=z)(h1:z<1090):PS (r! L (n+4)) LI [I z] (.tup [S (enc z),I 0]):=by
 have:=vJ (args:=λi=>[I ((i:Int)-10)]) (λi H=>fx1) (O' L n) (z+10).toNat (by omega);have e:(((z+10).toNat:Nat):Int)-10=z:=by omega
 rw[e]at this;exact this
def A0J(L n:Nat){z:Int}(a: -10<=z)(h1:z<390):PS (r! L (n+8)) KT [I z] (.tup [S (enc z),I 0]):=by
 by_cases h2:z<90
 ·have:=vJ (args:=λi=>[I ((i:Int)-10)]) (λi H=>fx1) (A3d L n) (z+10).toNat (by omega);have e:(((z+10).toNat:Nat):Int)-10=z:=by omega
  rw[e]at this;exact this
 ·by_cases b:z<190
  ·have:=vJ (args:=λi=>[I ((i:Int)+90)]) (λi H=>fx1) (A3c L n) (z-90).toNat (by omega);have e:(((z-90).toNat:Nat):Int)+90=z:=by omega
   rw[e]at this;exact this
  ·by_cases c:z<290
   ·have:=vJ (args:=λi=>[I ((i:Int)+190)]) (λi H=>fx1) (A3b L n) (z-190).toNat (by omega);have e:(((z-190).toNat:Nat):Int)+190=z:=by omega
    rw[e]at this;exact this
   ·have:=vJ (args:=λi=>[I ((i:Int)+290)]) (λi H=>fx1) (A3a L n) (z-290).toNat (by omega);have e:(((z-290).toNat:Nat):Int)+290=z:=by omega
    rw[e]at this;exact this
end
end Go.Abs
end
