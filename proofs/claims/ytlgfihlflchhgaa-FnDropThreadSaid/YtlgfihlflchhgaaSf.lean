/-
 Facts of the program's types; printed by lift.py. No conditions.
-/
import Derived.Test.YtlgfihlflchhgaaSt
import Derived.Test.YtlgfihlflchhgaaProg
namespace Go.Proofs.Ytlgfihlflchhgaa
open Go.RowKit
set_option maxRecDepth 100000
theorem ty3:TyF Try.prog 3 false 1:=⟨by kernel_rfl,by kernel_rfl,by kernel_rfl,by kernel_rfl⟩
theorem zs3:TyZ Try.prog 3 [I (0:Int)]:=⟨by kernel_rfl,by kernel_rfl⟩
theorem bt4:isBoolT Try.prog 4=true:=by kernel_rfl
theorem ty5:TyF Try.prog 5 false 1:=⟨by kernel_rfl,by kernel_rfl,by kernel_rfl,by kernel_rfl⟩
theorem zs5:TyZ Try.prog 5 [Y (0:Int)]:=⟨by kernel_rfl,by kernel_rfl⟩
theorem ty9:TyF Try.prog 9 false 1:=⟨by kernel_rfl,by kernel_rfl,by kernel_rfl,by kernel_rfl⟩
theorem zs9:TyZ Try.prog 9 [St (⟨#[]⟩:ByteArray)]:=⟨by kernel_rfl,by kernel_rfl⟩
theorem ty22:TyF Try.prog 22 false 1:=⟨by kernel_rfl,by kernel_rfl,by kernel_rfl,by kernel_rfl⟩
theorem ty23:TyF Try.prog 23 false 1:=⟨by kernel_rfl,by kernel_rfl,by kernel_rfl,by kernel_rfl⟩
theorem ty31:TyF Try.prog 31 false 1:=⟨by kernel_rfl,by kernel_rfl,by kernel_rfl,by kernel_rfl⟩
theorem zs31:TyZ Try.prog 31 [.nil]:=⟨by kernel_rfl,by kernel_rfl⟩
theorem ty33:TyF Try.prog 33 true 4:=⟨by kernel_rfl,by kernel_rfl,by kernel_rfl,by kernel_rfl⟩
theorem zs33:TyZ Try.prog 33 [I (0:Int),I (0:Int),I (0:Int),I (0:Int)]:=⟨by kernel_rfl,by kernel_rfl⟩
theorem fs33:TyS Try.prog 33 [(0,1),(1,1),(2,1),(3,1)]:=⟨by kernel_rfl⟩
theorem te33:TyE Try.prog 33:=⟨by kernel_rfl,by kernel_rfl,by kernel_rfl⟩
theorem ty52:TyF Try.prog 52 false 1:=⟨by kernel_rfl,by kernel_rfl,by kernel_rfl,by kernel_rfl⟩
theorem zs52:TyZ Try.prog 52 [.v .nilIface]:=⟨by kernel_rfl,by kernel_rfl⟩
theorem ty63:TyF Try.prog 63 false 1:=⟨by kernel_rfl,by kernel_rfl,by kernel_rfl,by kernel_rfl⟩
theorem zs63:TyZ Try.prog 63 [.nil]:=⟨by kernel_rfl,by kernel_rfl⟩
theorem ty76:TyF Try.prog 76 true 3:=⟨by kernel_rfl,by kernel_rfl,by kernel_rfl,by kernel_rfl⟩
theorem zs76:TyZ Try.prog 76 [Y (0:Int),Y (0:Int),Y (0:Int)]:=⟨by kernel_rfl,by kernel_rfl⟩
theorem ty77:TyF Try.prog 77 true 9:=⟨by kernel_rfl,by kernel_rfl,by kernel_rfl,by kernel_rfl⟩
theorem zs79:TyZ Try.prog 79 [.nil,Y (0:Int),Y (0:Int),Y (0:Int),Y (0:Int),Y (0:Int),Y (0:Int),Y (0:Int),Y (0:Int),Y (0:Int),Y (0:Int),Y (0:Int),Y (0:Int),Y (0:Int),Y (0:Int),Y (0:Int)]:=⟨by kernel_rfl,by kernel_rfl⟩
theorem fs79:TyS Try.prog 79 [(0,1),(1,3),(4,9),(13,3)]:=⟨by kernel_rfl⟩
theorem ty81:TyF Try.prog 81 true 16:=⟨by kernel_rfl,by kernel_rfl,by kernel_rfl,by kernel_rfl⟩
theorem zs81:TyZ Try.prog 81 [.nil,Y (0:Int),Y (0:Int),Y (0:Int),Y (0:Int),Y (0:Int),Y (0:Int),Y (0:Int),Y (0:Int),Y (0:Int),Y (0:Int),Y (0:Int),Y (0:Int),Y (0:Int),Y (0:Int),Y (0:Int)]:=⟨by kernel_rfl,by kernel_rfl⟩
theorem fs81:TyS Try.prog 81 [(0,16)]:=⟨by kernel_rfl⟩
theorem zs86:TyZ Try.prog 86 [.nil,I (0:Int)]:=⟨by kernel_rfl,by kernel_rfl⟩
theorem fs86:TyS Try.prog 86 [(0,1),(1,1)]:=⟨by kernel_rfl⟩
theorem sl22:SlT Try.prog 22 5 false 1 [Y (0:Int)] 1:=⟨Try.underlying22,ty5,zs5,rfl,rfl,by kernel_rfl⟩
theorem sl23:SlT Try.prog 23 31 false 1 [.nil] 24:=⟨Try.underlying23,ty31,zs31,rfl,rfl,by kernel_rfl⟩
theorem sl29:SlT Try.prog 29 63 false 1 [.nil] 24:=⟨Try.underlying29,ty63,zs63,rfl,rfl,by kernel_rfl⟩
theorem sl31:SlT Try.prog 31 33 true 4 [I (0:Int),I (0:Int),I (0:Int),I (0:Int)] 32:=⟨Try.underlying31,ty33,zs33,rfl,rfl,by kernel_rfl⟩
theorem sl63:SlT Try.prog 63 3 false 1 [I (0:Int)] 8:=⟨Try.underlying63,ty3,zs3,rfl,rfl,by kernel_rfl⟩
theorem km69:KeyA Try.prog 9 1 kStr:=keyStr Try.underlying9
theorem sl70:SlT Try.prog 70 52 false 1 [.v .nilIface] 16:=⟨Try.underlying70,ty52,zs52,rfl,rfl,by kernel_rfl⟩
theorem sl95:SlT Try.prog 95 9 false 1 [St (⟨#[]⟩:ByteArray)] 16:=⟨Try.underlying95,ty9,zs9,rfl,rfl,by kernel_rfl⟩
end Go.Proofs.Ytlgfihlflchhgaa
