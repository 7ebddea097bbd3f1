/-
 Facts of the program's types; printed by lift.py. No conditions.
-/
import Derived.Test.YtlmjnhnpahicmaaSt
import Derived.Test.YtlmjnhnpahicmaaProg
namespace Go.Proofs.Ytlmjnhnpahicmaa
open Go.RowKit
set_option maxRecDepth 100000
theorem ty3:TyF Try.prog 3 false 1:=⟨by kernel_rfl,by kernel_rfl,by kernel_rfl,by kernel_rfl⟩
theorem zs3:TyZ Try.prog 3 [I (0:Int)]:=⟨by kernel_rfl,by kernel_rfl⟩
theorem ty4:TyF Try.prog 4 false 1:=⟨by kernel_rfl,by kernel_rfl,by kernel_rfl,by kernel_rfl⟩
theorem ty23:TyF Try.prog 23 false 1:=⟨by kernel_rfl,by kernel_rfl,by kernel_rfl,by kernel_rfl⟩
theorem zs23:TyZ Try.prog 23 [.nil]:=⟨by kernel_rfl,by kernel_rfl⟩
theorem ty27:TyF Try.prog 27 false 1:=⟨by kernel_rfl,by kernel_rfl,by kernel_rfl,by kernel_rfl⟩
theorem ty37:TyF Try.prog 37 false 1:=⟨by kernel_rfl,by kernel_rfl,by kernel_rfl,by kernel_rfl⟩
theorem fs39:TyS Try.prog 39 [(0,1),(1,1)]:=⟨by kernel_rfl⟩
theorem ty43:TyF Try.prog 43 true 2:=⟨by kernel_rfl,by kernel_rfl,by kernel_rfl,by kernel_rfl⟩
theorem fs43:TyS Try.prog 43 [(0,1),(1,1)]:=⟨by kernel_rfl⟩
theorem ty56:TyF Try.prog 56 true 4:=⟨by kernel_rfl,by kernel_rfl,by kernel_rfl,by kernel_rfl⟩
theorem zs56:TyZ Try.prog 56 [I (0:Int),I (0:Int),I (0:Int),I (0:Int)]:=⟨by kernel_rfl,by kernel_rfl⟩
theorem fs56:TyS Try.prog 56 [(0,1),(1,1),(2,1),(3,1)]:=⟨by kernel_rfl⟩
theorem ty57:TyF Try.prog 57 false 1:=⟨by kernel_rfl,by kernel_rfl,by kernel_rfl,by kernel_rfl⟩
theorem zs57:TyZ Try.prog 57 [.nil]:=⟨by kernel_rfl,by kernel_rfl⟩
theorem ty93:TyF Try.prog 93 true 4:=⟨by kernel_rfl,by kernel_rfl,by kernel_rfl,by kernel_rfl⟩
theorem zs93:TyZ Try.prog 93 [I (0:Int),I (0:Int),I (0:Int),I (0:Int)]:=⟨by kernel_rfl,by kernel_rfl⟩
theorem fs93:TyS Try.prog 93 [(0,1),(1,1),(2,1),(3,1)]:=⟨by kernel_rfl⟩
theorem ty101:TyF Try.prog 101 true 5:=⟨by kernel_rfl,by kernel_rfl,by kernel_rfl,by kernel_rfl⟩
theorem zs101:TyZ Try.prog 101 [I (0:Int),I (0:Int),I (0:Int),Bo false,Bo false]:=⟨by kernel_rfl,by kernel_rfl⟩
theorem fs101:TyS Try.prog 101 [(0,1),(1,1),(2,1),(3,1),(4,1)]:=⟨by kernel_rfl⟩
theorem ty123:TyF Try.prog 123 false 1:=⟨by kernel_rfl,by kernel_rfl,by kernel_rfl,by kernel_rfl⟩
theorem zs125:TyZ Try.prog 125 [.nil,.nil,.nil,.nil,.nil,.v (.map none)]:=⟨by kernel_rfl,by kernel_rfl⟩
theorem fs125:TyS Try.prog 125 [(0,1),(1,2),(3,1),(4,1),(5,1)]:=⟨by kernel_rfl⟩
theorem ty127:TyF Try.prog 127 true 3:=⟨by kernel_rfl,by kernel_rfl,by kernel_rfl,by kernel_rfl⟩
theorem zs127:TyZ Try.prog 127 [I (0:Int),I (0:Int),I (0:Int)]:=⟨by kernel_rfl,by kernel_rfl⟩
theorem sl23:SlT Try.prog 23 3 false 1 [I (0:Int)] 8:=⟨Try.underlying23,ty3,zs3,rfl,rfl,by kernel_rfl⟩
theorem sl27:SlT Try.prog 27 57 false 1 [.nil] 24:=⟨Try.underlying27,ty57,zs57,rfl,rfl,by kernel_rfl⟩
theorem sl37:SlT Try.prog 37 23 false 1 [.nil] 24:=⟨Try.underlying37,ty23,zs23,rfl,rfl,by kernel_rfl⟩
theorem sl57:SlT Try.prog 57 56 true 4 [I (0:Int),I (0:Int),I (0:Int),I (0:Int)] 32:=⟨Try.underlying57,ty56,zs56,rfl,rfl,by kernel_rfl⟩
theorem sl64:SlT Try.prog 64 93 true 4 [I (0:Int),I (0:Int),I (0:Int),I (0:Int)] 32:=⟨Try.underlying64,ty93,zs93,rfl,rfl,by kernel_rfl⟩
theorem sl98:SlT Try.prog 98 101 true 5 [I (0:Int),I (0:Int),I (0:Int),Bo false,Bo false] 32:=⟨Try.underlying98,ty101,zs101,rfl,rfl,by kernel_rfl⟩
theorem km123:KeyA Try.prog 127 3 kI3:=by
 obtain ⟨i,hi⟩:=Option.isSome_iff_exists.1 (show (Try.prog.info? 3).isSome=true by kernel_rfl)
 exact keyI3 Try.underlying127 Try.underlying3 (by kernel_rfl) hi (by kernel_rfl)
end Go.Proofs.Ytlmjnhnpahicmaa
