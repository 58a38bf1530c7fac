import Derived.Test.YtngdjmhcceoafaaGreatDoorP10
set_option linter.all false
set_option maxHeartbeats 100000000
noncomputable section
namespace Go.Abs
open Go.RowKit Go.Proofs
set_option maxRecDepth 100000
section
variable {f:Nat} {R:Rt}
def JI (a:Af):Bool:=match a with
 |some (.v (.bool true),_)=>true
 |_=>false
def Dq (R:Rt) (f:Nat) (args:List AV):Af:=R.call f args [] λv a=>HP true a depth v λ_ b=>some (b,[])
def BJ {args:List AV} {v:AV} (c:∀H,Rr true depth args args H false) (h:JI (Ba (Dq R f args) v)=true):PS R f args v:=by
 intro H K;have h1:∃a,Ba (Dq R f args) v=some (.v (.bool true),a):=by
  unfold JI at h;split at h
  ·rename_i hq;exact⟨_,hq⟩
  ·cases h
 obtain⟨a,h1⟩:=h1;obtain⟨e,h2⟩:=rM h1;unfold An;rw[c];unfold Dq at h2;show Aq (R.call f args [] λv b=>HP true b depth v λ_ d=>some (d,[])) K=K v;rw[h2];rfl
def tQ {f N:Nat} {args:Nat->List AV} {val:Nat->AV} (a:∀i H,Rr true depth (args i) (args i) H false) (hc:((List.range N).all λi=>JI (Ba (Dq R f (args i)) (val i)))=true):∀i,i<N->PS R f (args i) (val i):= λi b=>
 BJ (a i) (GH.1 hc i (K8.2 b))
def B0R:Nat->Nat->List UInt8
 |0,_=>[]
 |f+1,z=>if z<128 then[UInt8.ofNat z] else UInt8.ofNat (z%128+128)::B0R f (z/128)
def zig (n:Int):Nat:=if n<0 then(-2*n-1).toNat else(2*n).toNat
def enc (n:Int):List UInt8:=B0R 9 (zig n)
def E_ (L n:Nat):((List.range 1100).all λi=>JI (Ba (Dq (r! L (n+4)) SF [I ((i:Int)-10)]) (.tup [S (enc ((i:Int)-10)),I 0])))=true:=by kernel_rfl
def A2y (L n:Nat):((List.range 100).all λi=>JI (Ba (Dq (r! L (n+8)) KB [I ((i:Int)-10)]) (.tup [S (enc ((i:Int)-10)),I 0])))=true:=by kernel_rfl
def A2x (L n:Nat):((List.range 100).all λi=>JI (Ba (Dq (r! L (n+8)) KB [I ((i:Int)+90)]) (.tup [S (enc ((i:Int)+90)),I 0])))=true:=by kernel_rfl
def A2w (L n:Nat):((List.range 100).all λi=>JI (Ba (Dq (r! L (n+8)) KB [I ((i:Int)+190)]) (.tup [S (enc ((i:Int)+190)),I 0])))=true:=by kernel_rfl
def A2v (L n:Nat):((List.range 100).all λi=>JI (Ba (Dq (r! L (n+8)) KB [I ((i:Int)+290)]) (.tup [S (enc ((i:Int)+290)),I 0])))=true:=by kernel_rfl
def A0F (L n:Nat) {z:Int} (a: -10<=z) (h1:z<1090):PS (r! L (n+4)) SF [I z] (.tup [S (enc z),I 0]):=by
 have:=tQ (args:= λi=>[I ((i:Int)-10)]) (λi H=>fx1) (E_ L n) (z+10).toNat (by omega);have e:(((z+10).toNat:Nat):Int)-10=z:=by omega
 rw[e] at this;exact this
def A0b (L n:Nat) {z:Int} (a: -10<=z) (h1:z<390):PS (r! L (n+8)) KB [I z] (.tup [S (enc z),I 0]):=by
 by_cases h2:z<90
 ·have:=tQ (args:= λi=>[I ((i:Int)-10)]) (λi H=>fx1) (A2y L n) (z+10).toNat (by omega);have e:(((z+10).toNat:Nat):Int)-10=z:=by omega
  rw[e] at this;exact this
 ·by_cases b:z<190
  ·have:=tQ (args:= λi=>[I ((i:Int)+90)]) (λi H=>fx1) (A2x L n) (z-90).toNat (by omega);have e:(((z-90).toNat:Nat):Int)+90=z:=by omega
   rw[e] at this;exact this
  ·by_cases c:z<290
   ·have:=tQ (args:= λi=>[I ((i:Int)+190)]) (λi H=>fx1) (A2w L n) (z-190).toNat (by omega);have e:(((z-190).toNat:Nat):Int)+190=z:=by omega
    rw[e] at this;exact this
   ·have:=tQ (args:= λi=>[I ((i:Int)+290)]) (λi H=>fx1) (A2v L n) (z-290).toNat (by omega);have e:(((z-290).toNat:Nat):Int)+290=z:=by omega
    rw[e] at this;exact this
end
end Go.Abs
end
