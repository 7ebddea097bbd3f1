/-
  Facts of the program's types; printed by lift.py. No conditions.
-/
import Derived.Test.YtjogdblionfmiaaDoorSt
import Derived.Test.YtjogdblionfmiaaDoorProg
namespace Go.Proofs.YtjogdblionfmiaaDoor
open Go.RowKit
set_option maxRecDepth 100000
theorem ty2 : TyF Tryd.prog 2 false 1 := ⟨by kernel_rfl, by kernel_rfl, by kernel_rfl, by kernel_rfl⟩
theorem zs2 : TyZ Tryd.prog 2 [I (0 : Int)] := ⟨by kernel_rfl, by kernel_rfl⟩
theorem ty3 : TyF Tryd.prog 3 false 1 := ⟨by kernel_rfl, by kernel_rfl, by kernel_rfl, by kernel_rfl⟩
theorem zs3 : TyZ Tryd.prog 3 [I (0 : Int)] := ⟨by kernel_rfl, by kernel_rfl⟩
theorem ty4 : TyF Tryd.prog 4 false 1 := ⟨by kernel_rfl, by kernel_rfl, by kernel_rfl, by kernel_rfl⟩
theorem zs4 : TyZ Tryd.prog 4 [Bo false] := ⟨by kernel_rfl, by kernel_rfl⟩
theorem bt4 : isBoolT Tryd.prog 4 = true := by kernel_rfl
theorem ty5 : TyF Tryd.prog 5 false 1 := ⟨by kernel_rfl, by kernel_rfl, by kernel_rfl, by kernel_rfl⟩
theorem zs5 : TyZ Tryd.prog 5 [Y (0 : Int)] := ⟨by kernel_rfl, by kernel_rfl⟩
theorem ty6 : TyF Tryd.prog 6 false 1 := ⟨by kernel_rfl, by kernel_rfl, by kernel_rfl, by kernel_rfl⟩
theorem zs6 : TyZ Tryd.prog 6 [Y (0 : Int)] := ⟨by kernel_rfl, by kernel_rfl⟩
theorem ty9 : TyF Tryd.prog 9 false 1 := ⟨by kernel_rfl, by kernel_rfl, by kernel_rfl, by kernel_rfl⟩
theorem zs9 : TyZ Tryd.prog 9 [St (⟨#[]⟩ : ByteArray)] := ⟨by kernel_rfl, by kernel_rfl⟩
theorem ty12 : TyF Tryd.prog 12 false 1 := ⟨by kernel_rfl, by kernel_rfl, by kernel_rfl, by kernel_rfl⟩
theorem zs12 : TyZ Tryd.prog 12 [.v (.int .u64 (0 : Int))] := ⟨by kernel_rfl, by kernel_rfl⟩
theorem ty21 : TyF Tryd.prog 21 false 1 := ⟨by kernel_rfl, by kernel_rfl, by kernel_rfl, by kernel_rfl⟩
theorem zs21 : TyZ Tryd.prog 21 [.v (.int .i32 (0 : Int))] := ⟨by kernel_rfl, by kernel_rfl⟩
theorem ty22 : TyF Tryd.prog 22 false 1 := ⟨by kernel_rfl, by kernel_rfl, by kernel_rfl, by kernel_rfl⟩
theorem zs22 : TyZ Tryd.prog 22 [.nil] := ⟨by kernel_rfl, by kernel_rfl⟩
theorem ty25 : TyF Tryd.prog 25 false 1 := ⟨by kernel_rfl, by kernel_rfl, by kernel_rfl, by kernel_rfl⟩
theorem zs25 : TyZ Tryd.prog 25 [.nil] := ⟨by kernel_rfl, by kernel_rfl⟩
theorem ty29 : TyF Tryd.prog 29 false 1 := ⟨by kernel_rfl, by kernel_rfl, by kernel_rfl, by kernel_rfl⟩
theorem zs29 : TyZ Tryd.prog 29 [.nil] := ⟨by kernel_rfl, by kernel_rfl⟩
theorem ty32 : TyF Tryd.prog 32 false 1 := ⟨by kernel_rfl, by kernel_rfl, by kernel_rfl, by kernel_rfl⟩
theorem zs32 : TyZ Tryd.prog 32 [.nil] := ⟨by kernel_rfl, by kernel_rfl⟩
theorem ty35 : TyF Tryd.prog 35 true 5 := ⟨by kernel_rfl, by kernel_rfl, by kernel_rfl, by kernel_rfl⟩
theorem zs35 : TyZ Tryd.prog 35 [I (0 : Int), I (0 : Int), I (0 : Int), Bo false, Bo false] := ⟨by kernel_rfl, by kernel_rfl⟩
theorem fs35 : TyS Tryd.prog 35 [(0, 1), (1, 1), (2, 1), (3, 1), (4, 1)] := ⟨by kernel_rfl⟩
theorem te35 : TyE Tryd.prog 35 := ⟨by kernel_rfl, by kernel_rfl, by kernel_rfl⟩
theorem ty39 : TyF Tryd.prog 39 true 4 := ⟨by kernel_rfl, by kernel_rfl, by kernel_rfl, by kernel_rfl⟩
theorem zs39 : TyZ Tryd.prog 39 [I (0 : Int), I (0 : Int), I (0 : Int), I (0 : Int)] := ⟨by kernel_rfl, by kernel_rfl⟩
theorem fs39 : TyS Tryd.prog 39 [(0, 1), (1, 1), (2, 1), (3, 1)] := ⟨by kernel_rfl⟩
theorem te39 : TyE Tryd.prog 39 := ⟨by kernel_rfl, by kernel_rfl, by kernel_rfl⟩
theorem ty40 : TyF Tryd.prog 40 false 1 := ⟨by kernel_rfl, by kernel_rfl, by kernel_rfl, by kernel_rfl⟩
theorem zs40 : TyZ Tryd.prog 40 [.nil] := ⟨by kernel_rfl, by kernel_rfl⟩
theorem ty42 : TyF Tryd.prog 42 false 1 := ⟨by kernel_rfl, by kernel_rfl, by kernel_rfl, by kernel_rfl⟩
theorem zs42 : TyZ Tryd.prog 42 [.nil] := ⟨by kernel_rfl, by kernel_rfl⟩
theorem ty52 : TyF Tryd.prog 52 false 1 := ⟨by kernel_rfl, by kernel_rfl, by kernel_rfl, by kernel_rfl⟩
theorem zs52 : TyZ Tryd.prog 52 [.nil] := ⟨by kernel_rfl, by kernel_rfl⟩
theorem ty58 : TyF Tryd.prog 58 true 4 := ⟨by kernel_rfl, by kernel_rfl, by kernel_rfl, by kernel_rfl⟩
theorem zs58 : TyZ Tryd.prog 58 [I (0 : Int), I (0 : Int), I (0 : Int), I (0 : Int)] := ⟨by kernel_rfl, by kernel_rfl⟩
theorem fs58 : TyS Tryd.prog 58 [(0, 1), (1, 1), (2, 1), (3, 1)] := ⟨by kernel_rfl⟩
theorem te58 : TyE Tryd.prog 58 := ⟨by kernel_rfl, by kernel_rfl, by kernel_rfl⟩
theorem ty61 : TyF Tryd.prog 61 true 2 := ⟨by kernel_rfl, by kernel_rfl, by kernel_rfl, by kernel_rfl⟩
theorem zs61 : TyZ Tryd.prog 61 [.nil, I (0 : Int)] := ⟨by kernel_rfl, by kernel_rfl⟩
theorem fs61 : TyS Tryd.prog 61 [(0, 1), (1, 1)] := ⟨by kernel_rfl⟩
theorem ty64 : TyF Tryd.prog 64 false 1 := ⟨by kernel_rfl, by kernel_rfl, by kernel_rfl, by kernel_rfl⟩
theorem zs64 : TyZ Tryd.prog 64 [.nil] := ⟨by kernel_rfl, by kernel_rfl⟩
theorem ty81 : TyF Tryd.prog 81 false 1 := ⟨by kernel_rfl, by kernel_rfl, by kernel_rfl, by kernel_rfl⟩
theorem zs81 : TyZ Tryd.prog 81 [.v (.int .u64 (0 : Int))] := ⟨by kernel_rfl, by kernel_rfl⟩
theorem ty88 : TyF Tryd.prog 88 false 1 := ⟨by kernel_rfl, by kernel_rfl, by kernel_rfl, by kernel_rfl⟩
theorem zs88 : TyZ Tryd.prog 88 [.v (.int .u32 (0 : Int))] := ⟨by kernel_rfl, by kernel_rfl⟩
theorem ty91 : TyF Tryd.prog 91 false 1 := ⟨by kernel_rfl, by kernel_rfl, by kernel_rfl, by kernel_rfl⟩
theorem zs91 : TyZ Tryd.prog 91 [.v (.int .u64 (0 : Int))] := ⟨by kernel_rfl, by kernel_rfl⟩
theorem ty103 : TyF Tryd.prog 103 false 1 := ⟨by kernel_rfl, by kernel_rfl, by kernel_rfl, by kernel_rfl⟩
theorem zs103 : TyZ Tryd.prog 103 [Y (0 : Int)] := ⟨by kernel_rfl, by kernel_rfl⟩
theorem ty104 : TyF Tryd.prog 104 false 1 := ⟨by kernel_rfl, by kernel_rfl, by kernel_rfl, by kernel_rfl⟩
theorem zs104 : TyZ Tryd.prog 104 [Y (0 : Int)] := ⟨by kernel_rfl, by kernel_rfl⟩
theorem ty107 : TyF Tryd.prog 107 false 1 := ⟨by kernel_rfl, by kernel_rfl, by kernel_rfl, by kernel_rfl⟩
theorem zs107 : TyZ Tryd.prog 107 [.v (.int .i32 (0 : Int))] := ⟨by kernel_rfl, by kernel_rfl⟩
theorem ty108 : TyF Tryd.prog 108 false 1 := ⟨by kernel_rfl, by kernel_rfl, by kernel_rfl, by kernel_rfl⟩
theorem zs108 : TyZ Tryd.prog 108 [.v (.int .i32 (0 : Int))] := ⟨by kernel_rfl, by kernel_rfl⟩
theorem sl22 : SlT Tryd.prog 22 42 false 1 [.nil] 24 := ⟨Tryd.underlying22, ty42, zs42, rfl, rfl, by kernel_rfl⟩
theorem sl25 : SlT Tryd.prog 25 40 false 1 [.nil] 24 := ⟨Tryd.underlying25, ty40, zs40, rfl, rfl, by kernel_rfl⟩
theorem sl29 : SlT Tryd.prog 29 5 false 1 [Y (0 : Int)] 1 := ⟨Tryd.underlying29, ty5, zs5, rfl, rfl, by kernel_rfl⟩
theorem sl32 : SlT Tryd.prog 32 35 true 5 [I (0 : Int), I (0 : Int), I (0 : Int), Bo false, Bo false] 32 := ⟨Tryd.underlying32, ty35, zs35, rfl, rfl, by kernel_rfl⟩
theorem sl40 : SlT Tryd.prog 40 39 true 4 [I (0 : Int), I (0 : Int), I (0 : Int), I (0 : Int)] 32 := ⟨Tryd.underlying40, ty39, zs39, rfl, rfl, by kernel_rfl⟩
theorem sl42 : SlT Tryd.prog 42 58 true 4 [I (0 : Int), I (0 : Int), I (0 : Int), I (0 : Int)] 32 := ⟨Tryd.underlying42, ty58, zs58, rfl, rfl, by kernel_rfl⟩
theorem sl52 : SlT Tryd.prog 52 3 false 1 [I (0 : Int)] 8 := ⟨Tryd.underlying52, ty3, zs3, rfl, rfl, by kernel_rfl⟩
theorem sl64 : SlT Tryd.prog 64 9 false 1 [St (⟨#[]⟩ : ByteArray)] 16 := ⟨Tryd.underlying64, ty9, zs9, rfl, rfl, by kernel_rfl⟩
end Go.Proofs.YtjogdblionfmiaaDoor
