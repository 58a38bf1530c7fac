import Derived.Test.YtlbhdmbfdcohhaaGreatDoorS19
set_option linter.all false
set_option maxHeartbeats 100000000
noncomputable section
namespace Go.Abs
open Go.RowKit Go.Proofs
set_option maxRecDepth 100000
def Iu (a:Aj):Bool:=match a with
 |some (.v (.bool true),_)=>true
 |_=>false
def CL (R:Rt) (f:Nat) (args:List AV):Aj:=R.call f args [] λv H'=>HO true H' depth v λ_ v'=>some (v',[])
theorem B4 {R:Rt} {f:Nat} {args:List AV} {v:AV} (ha:∀H,Pu true depth args args H false) (h:Iu (AX (CL R f args) v)=true):PS R f args v:=by
 intro H K
 have h1:∃H0,AX (CL R f args) v=some (.v (.bool true),H0):=by
  unfold Iu at h
  split at h
  ·rename_i hq;exact⟨_,hq⟩
  ·cases h
 obtain⟨H0,h1⟩:=h1
 obtain⟨H1,h2⟩:=A19 h1
 unfold Ah
 rw[ha]
 unfold CL at h2
 show Ai (R.call f args [] λv H'=>HO true H' depth v λ_ v'=>some (v',[])) K=K v
 rw[h2];rfl
theorem A28 {R:Rt} {f N:Nat} {args:Nat→List AV} {val:Nat→AV} (ha:∀i H,Pu true depth (args i) (args i) H false) (hc:((List.range N).all λi=>Iu (AX (CL R f (args i)) (val i)))=true):∀i,i<N→PS R f (args i) (val i):= λi hi=>
 B4 (ha i) (HB.1 hc i (Ju.2 hi))
def B4U:Nat→Nat→List UInt8
 |0,_=>[]
 |f+1,z=>if z<128 then[UInt8.ofNat z] else UInt8.ofNat (z%128+128)::B4U f (z/128)
def zig (n:Int):Nat:=if n<0 then(-2*n-1).toNat else(2*n).toNat
def enc (n:Int):List UInt8:=B4U 9 (zig n)
theorem A4G (L n:Nat):((List.range 1100).all λi=>Iu (AX (CL (rt (L+20) (n+4)) ML [I ((i:Int)-10)]) (.tup [S (enc ((i:Int)-10)),I 0])))=true:=by kernel_rfl
theorem A82 (L n:Nat):((List.range 100).all λi=>Iu (AX (CL (rt (L+20) (n+8)) Ik [I ((i:Int)-10)]) (.tup [S (enc ((i:Int)-10)),I 0])))=true:=by kernel_rfl
theorem A81 (L n:Nat):((List.range 100).all λi=>Iu (AX (CL (rt (L+20) (n+8)) Ik [I ((i:Int)+90)]) (.tup [S (enc ((i:Int)+90)),I 0])))=true:=by kernel_rfl
theorem A80 (L n:Nat):((List.range 100).all λi=>Iu (AX (CL (rt (L+20) (n+8)) Ik [I ((i:Int)+190)]) (.tup [S (enc ((i:Int)+190)),I 0])))=true:=by kernel_rfl
theorem A7Z (L n:Nat):((List.range 100).all λi=>Iu (AX (CL (rt (L+20) (n+8)) Ik [I ((i:Int)+290)]) (.tup [S (enc ((i:Int)+290)),I 0])))=true:=by kernel_rfl
theorem A6s (L n:Nat) {z:Int} (h0: -10≤z) (h1:z<1090):PS (rt (L+20) (n+4)) ML [I z] (.tup [S (enc z),I 0]):=by
 have:=A28 (args:= λi=>[I ((i:Int)-10)]) (λi H=>fx1) (A4G L n) (z+10).toNat (by omega)
 have e:(((z+10).toNat:Nat):Int)-10=z:=by omega
 rw[e] at this
 exact this
theorem A61 (L n:Nat) {z:Int} (h0: -10≤z) (h1:z<390):PS (rt (L+20) (n+8)) Ik [I z] (.tup [S (enc z),I 0]):=by
 by_cases h2:z<90
 ·have:=A28 (args:= λi=>[I ((i:Int)-10)]) (λi H=>fx1) (A82 L n) (z+10).toNat (by omega)
  have e:(((z+10).toNat:Nat):Int)-10=z:=by omega
  rw[e] at this
  exact this
 ·by_cases h3:z<190
  ·have:=A28 (args:= λi=>[I ((i:Int)+90)]) (λi H=>fx1) (A81 L n) (z-90).toNat (by omega)
   have e:(((z-90).toNat:Nat):Int)+90=z:=by omega
   rw[e] at this
   exact this
  ·by_cases h4:z<290
   ·have:=A28 (args:= λi=>[I ((i:Int)+190)]) (λi H=>fx1) (A80 L n) (z-190).toNat (by omega)
    have e:(((z-190).toNat:Nat):Int)+190=z:=by omega
    rw[e] at this
    exact this
   ·have:=A28 (args:= λi=>[I ((i:Int)+290)]) (λi H=>fx1) (A7Z L n) (z-290).toNat (by omega)
    have e:(((z-290).toNat:Nat):Int)+290=z:=by omega
    rw[e] at this
    exact this
end Go.Abs
end
