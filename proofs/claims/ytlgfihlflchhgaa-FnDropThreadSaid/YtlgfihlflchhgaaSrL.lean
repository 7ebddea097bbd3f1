/-
 The library's sort, laid over this program. No conditions.
-/
import Derived.Test.YtlgfihlflchhgaaProg
import Derived.Shelf.SlSortCmp.NoneTotal
namespace Go.Proofs.Ytlgfihlflchhgaa
open Go.Shelf Go.RowKit Go.Lib Go.Sort
set_option maxRecDepth 100000
def srtRen:Go.Shelf.Ren:=⟨fun | 6=>54 | 15=>67 | 14=>66 | 28=>79 | 29=>80 | 20=>71 | 21=>72 | 22=>73 | 23=>74 | 24=>75 | 25=>76 | 26=>77 | 27=>78 | 46=>84 | 47=>85 | 48=>86 | 49=>87 | 50=>88 | 57=>89 | n=>n,fun | 22=>29 | 24=>63 | 25=>92 | 3=>3 | 39=>103 | 0=>0 | 53=>116 | 55=>118 | 4=>4 | 46=>109 | 45=>108 | 50=>113 | 5=>5 | 9=>9 | 66=>122 | 70=>126 | 76=>128 | 77=>129 | n=>n,fun | n=>n⟩
theorem srtLay:Go.Proofs.SlLaysF.n6 Try.prog srtRen where
 mixed:=by kernel_rfl
 f6 := ⟨"slices.SortFunc[[][]int,[]int]",by decide,Try.func54.trans (congrArg some (by kernel_rfl))⟩
 f14 := ⟨"slices.pdqsortCmpFunc[[]int]",by decide,Try.func66.trans (congrArg some (by kernel_rfl))⟩
 f15:=Try.func67.trans (congrArg some (by kernel_rfl))
 f20 := ⟨"slices.insertionSortCmpFunc[[]int]",by decide,Try.func71.trans (congrArg some (by kernel_rfl))⟩
 f21 := ⟨"slices.heapSortCmpFunc[[]int]",by decide,Try.func72.trans (congrArg some (by kernel_rfl))⟩
 f22 := ⟨"slices.breakPatternsCmpFunc[[]int]",by decide,Try.func73.trans (congrArg some (by kernel_rfl))⟩
 f23 := ⟨"slices.choosePivotCmpFunc[[]int]",by decide,Try.func74.trans (congrArg some (by kernel_rfl))⟩
 f24 := ⟨"slices.reverseRangeCmpFunc[[]int]",by decide,Try.func75.trans (congrArg some (by kernel_rfl))⟩
 f25 := ⟨"slices.partialInsertionSortCmpFunc[[]int]",by decide,Try.func76.trans (congrArg some (by kernel_rfl))⟩
 f26 := ⟨"slices.partitionEqualCmpFunc[[]int]",by decide,Try.func77.trans (congrArg some (by kernel_rfl))⟩
 f27 := ⟨"slices.partitionCmpFunc[[]int]",by decide,Try.func78.trans (congrArg some (by kernel_rfl))⟩
 f28:=Try.func79.trans (congrArg some (by kernel_rfl))
 f29:=Try.func80.trans (congrArg some (by kernel_rfl))
 f46 := ⟨"slices.siftDownCmpFunc[[]int]",by decide,Try.func84.trans (congrArg some (by kernel_rfl))⟩
 f47:=Try.func85.trans (congrArg some (by kernel_rfl))
 f48:=Try.func86.trans (congrArg some (by kernel_rfl))
 f49 := ⟨"slices.medianAdjacentCmpFunc[[]int]",by decide,Try.func87.trans (congrArg some (by kernel_rfl))⟩
 f50 := ⟨"slices.medianCmpFunc[[]int]",by decide,Try.func88.trans (congrArg some (by kernel_rfl))⟩
 f57 := ⟨"slices.order2CmpFunc[[]int]",by decide,Try.func89.trans (congrArg some (by kernel_rfl))⟩
 t0:=Try.underlying0
 a0:=Try.isAgg0
 z0:=Try.sizeOf0
 v0:=Try.zeroValue0
 t3:=Try.underlying3
 a3:=Try.isAgg3
 z3:=Try.sizeOf3
 v3:=Try.zeroValue3
 t4:=Try.underlying4
 a4:=Try.isAgg4
 z4:=Try.sizeOf4
 v4:=Try.zeroValue4
 t5:=Try.underlying5
 a5:=Try.isAgg5
 z5:=Try.sizeOf5
 v5:=Try.zeroValue5
 t9:=Try.underlying9
 a9:=Try.isAgg9
 z9:=Try.sizeOf9
 v9:=Try.zeroValue9
 t22:=Try.underlying29
 a22:=Try.isAgg29
 z22:=Try.sizeOf29
 v22:=Try.zeroValue29
 a24:=Try.isAgg63
 z24:=Try.sizeOf63
 t25:=Try.underlying92
 a25:=Try.isAgg92
 z25:=Try.sizeOf92
 v25:=Try.zeroValue92
 t39:=Try.underlying103
 a39:=Try.isAgg103
 z39:=Try.sizeOf103
 v39:=Try.zeroValue103
 t45:=Try.underlying108
 a45:=Try.isAgg108
 z45:=Try.sizeOf108
 v45:=Try.zeroValue108
 t46:=Try.underlying109
 a46:=Try.isAgg109
 z46:=Try.sizeOf109
 v46:=Try.zeroValue109
 t50:=Try.underlying113
 a50:=Try.isAgg113
 z50:=Try.sizeOf113
 v50:=Try.zeroValue113
 t53:=Try.underlying116
 a53:=Try.isAgg116
 z53:=Try.sizeOf116
 v53:=Try.zeroValue116
 t55:=Try.underlying118
 a55:=Try.isAgg118
 z55:=Try.sizeOf118
 v55:=Try.zeroValue118
 t66:=Try.underlying122
 a66:=Try.isAgg122
 z66:=Try.sizeOf122
 v66:=Try.zeroValue122
 t70:=Try.underlying126
 a70:=Try.isAgg126
 z70:=Try.sizeOf126
 v70:=Try.zeroValue126
 t76:=Try.underlying128
 a76:=Try.isAgg128
 z76:=Try.sizeOf128
 v76:=Try.zeroValue128
 t77:=Try.underlying129
 a77:=Try.isAgg129
 z77:=Try.sizeOf129
 v77:=Try.zeroValue129
end Go.Proofs.Ytlgfihlflchhgaa
