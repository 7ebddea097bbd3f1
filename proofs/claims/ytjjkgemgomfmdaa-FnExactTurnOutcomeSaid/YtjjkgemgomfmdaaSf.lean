/-
  Facts of the program's types; printed by lift.py. No conditions.
-/
import Derived.Test.YtjjkgemgomfmdaaSt
import Derived.Test.YtjjkgemgomfmdaaProg
namespace Go.Proofs.Ytjjkgemgomfmdaa
open Go.RowKit
set_option maxRecDepth 100000
theorem ty2 : TyF Try.prog 2 false 1 := ⟨by kernel_rfl, by kernel_rfl, by kernel_rfl, by kernel_rfl⟩
theorem zs2 : TyZ Try.prog 2 [I (0 : Int)] := ⟨by kernel_rfl, by kernel_rfl⟩
theorem ty3 : TyF Try.prog 3 false 1 := ⟨by kernel_rfl, by kernel_rfl, by kernel_rfl, by kernel_rfl⟩
theorem zs3 : TyZ Try.prog 3 [I (0 : Int)] := ⟨by kernel_rfl, by kernel_rfl⟩
theorem ty4 : TyF Try.prog 4 false 1 := ⟨by kernel_rfl, by kernel_rfl, by kernel_rfl, by kernel_rfl⟩
theorem zs4 : TyZ Try.prog 4 [Bo false] := ⟨by kernel_rfl, by kernel_rfl⟩
theorem bt4 : isBoolT Try.prog 4 = true := by kernel_rfl
theorem ty5 : TyF Try.prog 5 false 1 := ⟨by kernel_rfl, by kernel_rfl, by kernel_rfl, by kernel_rfl⟩
theorem zs5 : TyZ Try.prog 5 [Y (0 : Int)] := ⟨by kernel_rfl, by kernel_rfl⟩
theorem ty6 : TyF Try.prog 6 false 1 := ⟨by kernel_rfl, by kernel_rfl, by kernel_rfl, by kernel_rfl⟩
theorem zs6 : TyZ Try.prog 6 [Y (0 : Int)] := ⟨by kernel_rfl, by kernel_rfl⟩
theorem ty9 : TyF Try.prog 9 false 1 := ⟨by kernel_rfl, by kernel_rfl, by kernel_rfl, by kernel_rfl⟩
theorem zs9 : TyZ Try.prog 9 [St (⟨#[]⟩ : ByteArray)] := ⟨by kernel_rfl, by kernel_rfl⟩
theorem ty12 : TyF Try.prog 12 false 1 := ⟨by kernel_rfl, by kernel_rfl, by kernel_rfl, by kernel_rfl⟩
theorem zs12 : TyZ Try.prog 12 [.v (.int .u64 (0 : Int))] := ⟨by kernel_rfl, by kernel_rfl⟩
theorem ty21 : TyF Try.prog 21 false 1 := ⟨by kernel_rfl, by kernel_rfl, by kernel_rfl, by kernel_rfl⟩
theorem zs21 : TyZ Try.prog 21 [.v (.int .i32 (0 : Int))] := ⟨by kernel_rfl, by kernel_rfl⟩
theorem ty24 : TyF Try.prog 24 false 1 := ⟨by kernel_rfl, by kernel_rfl, by kernel_rfl, by kernel_rfl⟩
theorem zs24 : TyZ Try.prog 24 [.nil] := ⟨by kernel_rfl, by kernel_rfl⟩
theorem ty30 : TyF Try.prog 30 false 1 := ⟨by kernel_rfl, by kernel_rfl, by kernel_rfl, by kernel_rfl⟩
theorem zs30 : TyZ Try.prog 30 [.nil] := ⟨by kernel_rfl, by kernel_rfl⟩
theorem ty36 : TyF Try.prog 36 false 1 := ⟨by kernel_rfl, by kernel_rfl, by kernel_rfl, by kernel_rfl⟩
theorem zs36 : TyZ Try.prog 36 [.nil] := ⟨by kernel_rfl, by kernel_rfl⟩
theorem ty46 : TyF Try.prog 46 false 1 := ⟨by kernel_rfl, by kernel_rfl, by kernel_rfl, by kernel_rfl⟩
theorem zs46 : TyZ Try.prog 46 [.nil] := ⟨by kernel_rfl, by kernel_rfl⟩
theorem ty57 : TyF Try.prog 57 false 1 := ⟨by kernel_rfl, by kernel_rfl, by kernel_rfl, by kernel_rfl⟩
theorem zs57 : TyZ Try.prog 57 [.nil] := ⟨by kernel_rfl, by kernel_rfl⟩
theorem ty64 : TyF Try.prog 64 false 1 := ⟨by kernel_rfl, by kernel_rfl, by kernel_rfl, by kernel_rfl⟩
theorem zs64 : TyZ Try.prog 64 [.nil] := ⟨by kernel_rfl, by kernel_rfl⟩
theorem ty66 : TyF Try.prog 66 true 4 := ⟨by kernel_rfl, by kernel_rfl, by kernel_rfl, by kernel_rfl⟩
theorem zs66 : TyZ Try.prog 66 [I (0 : Int), I (0 : Int), I (0 : Int), I (0 : Int)] := ⟨by kernel_rfl, by kernel_rfl⟩
theorem fs66 : TyS Try.prog 66 [(0, 1), (1, 1), (2, 1), (3, 1)] := ⟨by kernel_rfl⟩
theorem te66 : TyE Try.prog 66 := ⟨by kernel_rfl, by kernel_rfl, by kernel_rfl⟩
theorem ty89 : TyF Try.prog 89 true 4 := ⟨by kernel_rfl, by kernel_rfl, by kernel_rfl, by kernel_rfl⟩
theorem zs89 : TyZ Try.prog 89 [I (0 : Int), I (0 : Int), I (0 : Int), I (0 : Int)] := ⟨by kernel_rfl, by kernel_rfl⟩
theorem fs89 : TyS Try.prog 89 [(0, 1), (1, 1), (2, 1), (3, 1)] := ⟨by kernel_rfl⟩
theorem te89 : TyE Try.prog 89 := ⟨by kernel_rfl, by kernel_rfl, by kernel_rfl⟩
theorem ty92 : TyF Try.prog 92 true 2 := ⟨by kernel_rfl, by kernel_rfl, by kernel_rfl, by kernel_rfl⟩
theorem zs92 : TyZ Try.prog 92 [.nil, I (0 : Int)] := ⟨by kernel_rfl, by kernel_rfl⟩
theorem fs92 : TyS Try.prog 92 [(0, 1), (1, 1)] := ⟨by kernel_rfl⟩
theorem ty96 : TyF Try.prog 96 false 1 := ⟨by kernel_rfl, by kernel_rfl, by kernel_rfl, by kernel_rfl⟩
theorem zs96 : TyZ Try.prog 96 [.nil] := ⟨by kernel_rfl, by kernel_rfl⟩
theorem ty115 : TyF Try.prog 115 false 1 := ⟨by kernel_rfl, by kernel_rfl, by kernel_rfl, by kernel_rfl⟩
theorem zs115 : TyZ Try.prog 115 [.v (.int .u32 (0 : Int))] := ⟨by kernel_rfl, by kernel_rfl⟩
theorem ty116 : TyF Try.prog 116 false 1 := ⟨by kernel_rfl, by kernel_rfl, by kernel_rfl, by kernel_rfl⟩
theorem zs116 : TyZ Try.prog 116 [Y (0 : Int)] := ⟨by kernel_rfl, by kernel_rfl⟩
theorem ty117 : TyF Try.prog 117 false 1 := ⟨by kernel_rfl, by kernel_rfl, by kernel_rfl, by kernel_rfl⟩
theorem zs117 : TyZ Try.prog 117 [Y (0 : Int)] := ⟨by kernel_rfl, by kernel_rfl⟩
theorem ty120 : TyF Try.prog 120 false 1 := ⟨by kernel_rfl, by kernel_rfl, by kernel_rfl, by kernel_rfl⟩
theorem zs120 : TyZ Try.prog 120 [.v (.int .i32 (0 : Int))] := ⟨by kernel_rfl, by kernel_rfl⟩
theorem ty121 : TyF Try.prog 121 false 1 := ⟨by kernel_rfl, by kernel_rfl, by kernel_rfl, by kernel_rfl⟩
theorem zs121 : TyZ Try.prog 121 [.v (.int .i32 (0 : Int))] := ⟨by kernel_rfl, by kernel_rfl⟩
theorem ty126 : TyF Try.prog 126 false 1 := ⟨by kernel_rfl, by kernel_rfl, by kernel_rfl, by kernel_rfl⟩
theorem zs126 : TyZ Try.prog 126 [.v (.int .u64 (0 : Int))] := ⟨by kernel_rfl, by kernel_rfl⟩
theorem sl24 : SlT Try.prog 24 57 false 1 [.nil] 24 := ⟨Try.underlying24, ty57, zs57, rfl, rfl, by kernel_rfl⟩
theorem sl30 : SlT Try.prog 30 64 false 1 [.nil] 24 := ⟨Try.underlying30, ty64, zs64, rfl, rfl, by kernel_rfl⟩
theorem sl36 : SlT Try.prog 36 5 false 1 [Y (0 : Int)] 1 := ⟨Try.underlying36, ty5, zs5, rfl, rfl, by kernel_rfl⟩
theorem sl46 : SlT Try.prog 46 3 false 1 [I (0 : Int)] 8 := ⟨Try.underlying46, ty3, zs3, rfl, rfl, by kernel_rfl⟩
theorem sl57 : SlT Try.prog 57 66 true 4 [I (0 : Int), I (0 : Int), I (0 : Int), I (0 : Int)] 32 := ⟨Try.underlying57, ty66, zs66, rfl, rfl, by kernel_rfl⟩
theorem sl64 : SlT Try.prog 64 89 true 4 [I (0 : Int), I (0 : Int), I (0 : Int), I (0 : Int)] 32 := ⟨Try.underlying64, ty89, zs89, rfl, rfl, by kernel_rfl⟩
theorem sl96 : SlT Try.prog 96 9 false 1 [St (⟨#[]⟩ : ByteArray)] 16 := ⟨Try.underlying96, ty9, zs9, rfl, rfl, by kernel_rfl⟩
end Go.Proofs.Ytjjkgemgomfmdaa
