/-
 spec.l1Mutate as a function over plain values. Plain definitions. No conditions.
-/
import Derived.Test.YtlgfihlflchhgaaSQd
import Derived.Test.YtlgfihlflchhgaaCpd
namespace Go.Proofs.Ytlgfihlflchhgaa
open Go.RowKit
def putP (p:List (List ZIn)) (i:Nat) (x:List ZIn):List (List ZIn):=p.set i (p.getD i []++x)
noncomputable def F_spec_l1Mutate (r_:Xspec_l17Rd) (p:List (List ZIn)):Option (Xspec_l17Rd×List (List ZIn)):=
 gd (fitsP p) <|
 bif Nat.beq p.length 0 then some (r_,p) else
 Option.bind (F_spec_l17Rd_pick r_ (p.length:Int)) fun v1=>
 Option.bind (F_spec_l17Rd_pick v1.1 (40:Int)) fun v2=>
 gd (decide (0<=v1.2/\v1.2<(p.length:Int))) <|
 bif v2.2==(0:Int) then
  Option.bind (F_spec_l17Rd_num v2.1 ([(0:Int),(6:Int),(1:Int),(4:Int)]:List Int)) fun a=>
  Option.bind (F_spec_l17Rd_num a.1 ([(0:Int),(3:Int),(-1:Int)]:List Int)) fun b=>
  some (b.1,putP p v1.2.toNat [⟨a.2,b.2,0,0⟩])
 else bif v2.2==(1:Int) then
  Option.bind (F_spec_l17Rd_num v2.1 ([(4:Int),(-1:Int),(3:Int)]:List Int)) fun a=>
  some (a.1,putP p v1.2.toNat [⟨2,0,0,a.2⟩])
 else bif v2.2==(2:Int) then some (v2.1,p++List.replicate (4-p.length) [])
 else bif v2.2==(3:Int) then some (v2.1,putP p v1.2.toNat (List.replicate (8-(p.getD v1.2.toNat []).length) ⟨1,0,0,0⟩))
 else bif v2.2==(4:Int) then some (v2.1,(p.drop 1).take (p.length-1))
 else some (v2.1,p)
end Go.Proofs.Ytlgfihlflchhgaa
