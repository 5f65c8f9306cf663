/- slices.SortFunc at edges: the shelf's laying in plain words (lay_plain.py, this seat's numbers). -/
import Derived.Shelf.SlSortCmp.WholeK
import Derived.Test.YtcigocejgmafjaaHot
namespace Go.Proofs.Ytcigocejgmafjaa
open Go Go.Shelf
set_option linter.unusedVariables false
set_option linter.unusedSimpArgs false
def sortLg_ren : Go.Shelf.Ren := ⟨fun | 6 => 40 | 15 => 63 | 14 => 62 | 28 => 83 | 29 => 84 | 20 => 75 | 21 => 76 | 22 => 77 | 23 => 78 | 24 => 79 | 25 => 80 | 26 => 81 | 27 => 82 | 46 => 87 | 47 => 88 | 48 => 89 | 49 => 90 | 50 => 91 | 57 => 92 | n => n, fun | 22 => 57 | 24 => 61 | 25 => 88 | 3 => 3 | 39 => 107 | 0 => 0 | 53 => 124 | 55 => 126 | 4 => 4 | 46 => 117 | 45 => 116 | 50 => 121 | 5 => 5 | 9 => 9 | 66 => 127 | 70 => 131 | 76 => 133 | 77 => 134 | n => n, fun | n => n⟩
theorem sortLg : Go.Proofs.SlLaysF0.n6 Try.prog sortLg_ren := {
 mixed := by kernel_rfl
 f6 := ⟨Try.f40.name, by decide, Try.func40.trans (congrArg some (by kernel_rfl))⟩
 f14 := ⟨Try.f62.name, by decide, Try.func62.trans (congrArg some (by kernel_rfl))⟩
 f15 := Try.func63.trans (congrArg some (by kernel_rfl))
 f20 := ⟨Try.f75.name, by decide, Try.func75.trans (congrArg some (by kernel_rfl))⟩
 f21 := ⟨Try.f76.name, by decide, Try.func76.trans (congrArg some (by kernel_rfl))⟩
 f22 := ⟨Try.f77.name, by decide, Try.func77.trans (congrArg some (by kernel_rfl))⟩
 f23 := ⟨Try.f78.name, by decide, Try.func78.trans (congrArg some (by kernel_rfl))⟩
 f24 := ⟨Try.f79.name, by decide, Try.func79.trans (congrArg some (by kernel_rfl))⟩
 f25 := ⟨Try.f80.name, by decide, Try.func80.trans (congrArg some (by kernel_rfl))⟩
 f26 := ⟨Try.f81.name, by decide, Try.func81.trans (congrArg some (by kernel_rfl))⟩
 f27 := ⟨Try.f82.name, by decide, Try.func82.trans (congrArg some (by kernel_rfl))⟩
 f28 := Try.func83.trans (congrArg some (by kernel_rfl))
 f29 := Try.func84.trans (congrArg some (by kernel_rfl))
 f46 := ⟨Try.f87.name, by decide, Try.func87.trans (congrArg some (by kernel_rfl))⟩
 f47 := Try.func88.trans (congrArg some (by kernel_rfl))
 f48 := Try.func89.trans (congrArg some (by kernel_rfl))
 f49 := ⟨Try.f90.name, by decide, Try.func90.trans (congrArg some (by kernel_rfl))⟩
 f50 := ⟨Try.f91.name, by decide, Try.func91.trans (congrArg some (by kernel_rfl))⟩
 f57 := ⟨Try.f92.name, by decide, Try.func92.trans (congrArg some (by kernel_rfl))⟩
 t0 := Try.underlying0
 a0 := Try.isAgg0
 z0 := Try.sizeOf0
 v0 := Try.zeroValue0
 t3 := Try.underlying3
 a3 := Try.isAgg3
 z3 := Try.sizeOf3
 v3 := Try.zeroValue3
 t4 := Try.underlying4
 a4 := Try.isAgg4
 z4 := Try.sizeOf4
 v4 := Try.zeroValue4
 t5 := Try.underlying5
 a5 := Try.isAgg5
 z5 := Try.sizeOf5
 v5 := Try.zeroValue5
 t9 := Try.underlying9
 a9 := Try.isAgg9
 z9 := Try.sizeOf9
 v9 := Try.zeroValue9
 t22 := Try.underlying57
 a22 := Try.isAgg57
 z22 := Try.sizeOf57
 v22 := Try.zeroValue57
 t25 := Try.underlying88
 a25 := Try.isAgg88
 z25 := Try.sizeOf88
 v25 := Try.zeroValue88
 t39 := Try.underlying107
 a39 := Try.isAgg107
 z39 := Try.sizeOf107
 v39 := Try.zeroValue107
 t45 := Try.underlying116
 a45 := Try.isAgg116
 z45 := Try.sizeOf116
 v45 := Try.zeroValue116
 t46 := Try.underlying117
 a46 := Try.isAgg117
 z46 := Try.sizeOf117
 v46 := Try.zeroValue117
 t50 := Try.underlying121
 a50 := Try.isAgg121
 z50 := Try.sizeOf121
 v50 := Try.zeroValue121
 t53 := Try.underlying124
 a53 := Try.isAgg124
 z53 := Try.sizeOf124
 v53 := Try.zeroValue124
 t55 := Try.underlying126
 a55 := Try.isAgg126
 z55 := Try.sizeOf126
 v55 := Try.zeroValue126
 t66 := Try.underlying127
 a66 := Try.isAgg127
 z66 := Try.sizeOf127
 v66 := Try.zeroValue127
 t70 := Try.underlying131
 a70 := Try.isAgg131
 z70 := Try.sizeOf131
 v70 := Try.zeroValue131
 t76 := Try.underlying133
 a76 := Try.isAgg133
 z76 := Try.sizeOf133
 v76 := Try.zeroValue133
 t77 := Try.underlying134
 a77 := Try.isAgg134
 z77 := Try.sizeOf134
 v77 := Try.zeroValue134 }
end Go.Proofs.Ytcigocejgmafjaa
