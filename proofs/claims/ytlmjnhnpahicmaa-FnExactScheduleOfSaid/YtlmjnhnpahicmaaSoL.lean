/-
 The library's sort of numbers, laid over this program. No conditions.
-/
import Derived.Test.YtlmjnhnpahicmaaProg
import Derived.Shelf.SortM.Plain
import Derived.Shelf.SortM.SortNone
namespace Go.Proofs.Ytlmjnhnpahicmaa
open Go.Shelf Go.RowKit Go.Lib Go.Sort
set_option maxRecDepth 100000
def sorRen:Go.Shelf.Ren:=⟨fun | 5=>113 | 8=>150 | 7=>149 | 19=>176 | 20=>177 | 10=>167 | 11=>168 | 12=>169 | 13=>170 | 14=>171 | 15=>172 | 16=>173 | 17=>174 | 18=>175 | 30=>183 | 31=>184 | 32=>185 | 33=>186 | 34=>187 | 35=>188 | 40=>191 | n=>n,fun | 23=>23 | 25=>3 | 3=>3 | 32=>168 | 22=>23 | 0=>0 | 44=>192 | 46=>194 | 4=>4 | 36=>187 | 35=>186 | 41=>162 | 5=>5 | 9=>9 | 53=>202 | 57=>206 | 63=>210 | 64=>211 | n=>n,fun | n=>n⟩
theorem sorLay:Go.Proofs.SlLaysM.n5 Try.prog sorRen where
 mixed:=by kernel_rfl
 f5 := ⟨"slices.Sort[[]int,int]",by decide,Try.func113.trans (congrArg some (by kernel_rfl))⟩
 f7 := ⟨"slices.pdqsortOrdered[int]",by decide,Try.func149.trans (congrArg some (by kernel_rfl))⟩
 f8:=Try.func150.trans (congrArg some (by kernel_rfl))
 f10 := ⟨"slices.insertionSortOrdered[int]",by decide,Try.func167.trans (congrArg some (by kernel_rfl))⟩
 f11 := ⟨"slices.heapSortOrdered[int]",by decide,Try.func168.trans (congrArg some (by kernel_rfl))⟩
 f12 := ⟨"slices.breakPatternsOrdered[int]",by decide,Try.func169.trans (congrArg some (by kernel_rfl))⟩
 f13 := ⟨"slices.choosePivotOrdered[int]",by decide,Try.func170.trans (congrArg some (by kernel_rfl))⟩
 f14 := ⟨"slices.reverseRangeOrdered[int]",by decide,Try.func171.trans (congrArg some (by kernel_rfl))⟩
 f15 := ⟨"slices.partialInsertionSortOrdered[int]",by decide,Try.func172.trans (congrArg some (by kernel_rfl))⟩
 f16 := ⟨"cmp.Less[int]",by decide,Try.func173.trans (congrArg some (by kernel_rfl))⟩
 f17 := ⟨"slices.partitionEqualOrdered[int]",by decide,Try.func174.trans (congrArg some (by kernel_rfl))⟩
 f18 := ⟨"slices.partitionOrdered[int]",by decide,Try.func175.trans (congrArg some (by kernel_rfl))⟩
 f19:=Try.func176.trans (congrArg some (by kernel_rfl))
 f20:=Try.func177.trans (congrArg some (by kernel_rfl))
 f30 := ⟨"slices.siftDownOrdered[int]",by decide,Try.func183.trans (congrArg some (by kernel_rfl))⟩
 f31:=Try.func184.trans (congrArg some (by kernel_rfl))
 f32:=Try.func185.trans (congrArg some (by kernel_rfl))
 f33 := ⟨"slices.medianAdjacentOrdered[int]",by decide,Try.func186.trans (congrArg some (by kernel_rfl))⟩
 f34 := ⟨"slices.medianOrdered[int]",by decide,Try.func187.trans (congrArg some (by kernel_rfl))⟩
 f35 := ⟨"cmp.isNaN[int]",by decide,Try.func188.trans (congrArg some (by kernel_rfl))⟩
 f40 := ⟨"slices.order2Ordered[int]",by decide,Try.func191.trans (congrArg some (by kernel_rfl))⟩
 t0:=Try.underlying0
 a0:=Try.isAgg0
 z0:=Try.sizeOf0
 v0:=Try.zeroValue0
 t3:=Try.underlying3
 a3:=Try.isAgg3
 z3:=Try.sizeOf3
 v3:=Try.zeroValue3
 t4:=Try.underlying4
 a4:=Try.isAgg4
 z4:=Try.sizeOf4
 v4:=Try.zeroValue4
 t5:=Try.underlying5
 a5:=Try.isAgg5
 z5:=Try.sizeOf5
 v5:=Try.zeroValue5
 t9:=Try.underlying9
 a9:=Try.isAgg9
 z9:=Try.sizeOf9
 v9:=Try.zeroValue9
 t22:=Try.underlying23
 a22:=Try.isAgg23
 z22:=Try.sizeOf23
 v22:=Try.zeroValue23
 t23:=Try.underlying23
 a23:=Try.isAgg23
 z23:=Try.sizeOf23
 v23:=Try.zeroValue23
 t25:=Try.underlying3
 a25:=Try.isAgg3
 z25:=Try.sizeOf3
 v25:=Try.zeroValue3
 t32:=Try.underlying168
 a32:=Try.isAgg168
 z32:=Try.sizeOf168
 v32:=Try.zeroValue168
 t35:=Try.underlying186
 a35:=Try.isAgg186
 z35:=Try.sizeOf186
 v35:=Try.zeroValue186
 t36:=Try.underlying187
 a36:=Try.isAgg187
 z36:=Try.sizeOf187
 v36:=Try.zeroValue187
 t41:=Try.underlying162
 a41:=Try.isAgg162
 z41:=Try.sizeOf162
 v41:=Try.zeroValue162
 t44:=Try.underlying192
 a44:=Try.isAgg192
 z44:=Try.sizeOf192
 v44:=Try.zeroValue192
 t46:=Try.underlying194
 a46:=Try.isAgg194
 z46:=Try.sizeOf194
 v46:=Try.zeroValue194
 t53:=Try.underlying202
 a53:=Try.isAgg202
 z53:=Try.sizeOf202
 v53:=Try.zeroValue202
 t57:=Try.underlying206
 a57:=Try.isAgg206
 z57:=Try.sizeOf206
 v57:=Try.zeroValue206
 t63:=Try.underlying210
 a63:=Try.isAgg210
 z63:=Try.sizeOf210
 v63:=Try.zeroValue210
 t64:=Try.underlying211
 a64:=Try.isAgg211
 z64:=Try.sizeOf211
 v64:=Try.zeroValue211
end Go.Proofs.Ytlmjnhnpahicmaa
