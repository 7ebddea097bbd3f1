/-
  Facts of the program's types; printed by lift.py. No conditions.
-/
import Derived.Test.YtjjkgemgomfmdaaS4t
import Derived.Test.YtjjkgemgomfmdaaProg
namespace Go.Proofs.Ytjjkgemgomfmdaa
open Go.RowKit
set_option maxRecDepth 100000
theorem ty3 : TyF Try.prog 3 false 1 := ⟨by kernel_rfl, by kernel_rfl, by kernel_rfl, by kernel_rfl⟩
theorem zs3 : TyZ Try.prog 3 [I (0 : Int)] := ⟨by kernel_rfl, by kernel_rfl⟩
theorem ty4 : TyF Try.prog 4 false 1 := ⟨by kernel_rfl, by kernel_rfl, by kernel_rfl, by kernel_rfl⟩
theorem zs4 : TyZ Try.prog 4 [Bo false] := ⟨by kernel_rfl, by kernel_rfl⟩
theorem bt4 : isBoolT Try.prog 4 = true := by kernel_rfl
theorem ty5 : TyF Try.prog 5 false 1 := ⟨by kernel_rfl, by kernel_rfl, by kernel_rfl, by kernel_rfl⟩
theorem zs5 : TyZ Try.prog 5 [Y (0 : Int)] := ⟨by kernel_rfl, by kernel_rfl⟩
theorem ty24 : TyF Try.prog 24 false 1 := ⟨by kernel_rfl, by kernel_rfl, by kernel_rfl, by kernel_rfl⟩
theorem zs24 : TyZ Try.prog 24 [.nil] := ⟨by kernel_rfl, by kernel_rfl⟩
theorem ty36 : TyF Try.prog 36 false 1 := ⟨by kernel_rfl, by kernel_rfl, by kernel_rfl, by kernel_rfl⟩
theorem zs36 : TyZ Try.prog 36 [.nil] := ⟨by kernel_rfl, by kernel_rfl⟩
theorem ty46 : TyF Try.prog 46 false 1 := ⟨by kernel_rfl, by kernel_rfl, by kernel_rfl, by kernel_rfl⟩
theorem zs46 : TyZ Try.prog 46 [.nil] := ⟨by kernel_rfl, by kernel_rfl⟩
theorem ty57 : TyF Try.prog 57 false 1 := ⟨by kernel_rfl, by kernel_rfl, by kernel_rfl, by kernel_rfl⟩
theorem zs57 : TyZ Try.prog 57 [.nil] := ⟨by kernel_rfl, by kernel_rfl⟩
theorem ty66 : TyF Try.prog 66 true 4 := ⟨by kernel_rfl, by kernel_rfl, by kernel_rfl, by kernel_rfl⟩
theorem zs66 : TyZ Try.prog 66 [I (0 : Int), I (0 : Int), I (0 : Int), I (0 : Int)] := ⟨by kernel_rfl, by kernel_rfl⟩
theorem fs66 : TyS Try.prog 66 [(0, 1), (1, 1), (2, 1), (3, 1)] := ⟨by kernel_rfl⟩
theorem te66 : TyE Try.prog 66 := ⟨by kernel_rfl, by kernel_rfl, by kernel_rfl⟩
theorem ty92 : TyF Try.prog 92 true 2 := ⟨by kernel_rfl, by kernel_rfl, by kernel_rfl, by kernel_rfl⟩
theorem zs92 : TyZ Try.prog 92 [.nil, I (0 : Int)] := ⟨by kernel_rfl, by kernel_rfl⟩
theorem fs92 : TyS Try.prog 92 [(0, 1), (1, 1)] := ⟨by kernel_rfl⟩
theorem sl24 : SlT Try.prog 24 57 false 1 [.nil] 24 := ⟨Try.underlying24, ty57, zs57, rfl, rfl, by kernel_rfl⟩
theorem sl36 : SlT Try.prog 36 5 false 1 [Y (0 : Int)] 1 := ⟨Try.underlying36, ty5, zs5, rfl, rfl, by kernel_rfl⟩
theorem sl46 : SlT Try.prog 46 3 false 1 [I (0 : Int)] 8 := ⟨Try.underlying46, ty3, zs3, rfl, rfl, by kernel_rfl⟩
theorem sl57 : SlT Try.prog 57 66 true 4 [I (0 : Int), I (0 : Int), I (0 : Int), I (0 : Int)] 32 := ⟨Try.underlying57, ty66, zs66, rfl, rfl, by kernel_rfl⟩
end Go.Proofs.Ytjjkgemgomfmdaa
