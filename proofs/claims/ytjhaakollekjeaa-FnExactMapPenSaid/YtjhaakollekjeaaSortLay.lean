/- slices.SortFunc at points: the shelf's laying in plain words (lay_plain.py, this seat's numbers). -/
import Derived.Shelf.SlSortCmp.WholeK
import Derived.Test.YtjhaakollekjeaaHot
namespace Go.Proofs.Ytjhaakollekjeaa
open Go Go.Shelf
set_option linter.unusedVariables false
set_option linter.unusedSimpArgs false
def sortPt_ren : Go.Shelf.Ren := ⟨fun | 6 => 101 | 15 => 141 | 14 => 140 | 28 => 164 | 29 => 165 | 20 => 156 | 21 => 157 | 22 => 158 | 23 => 159 | 24 => 160 | 25 => 161 | 26 => 162 | 27 => 163 | 46 => 172 | 47 => 173 | 48 => 174 | 49 => 175 | 50 => 176 | 57 => 178 | n => n, fun | 22 => 53 | 24 => 103 | 25 => 170 | 3 => 3 | 39 => 209 | 0 => 0 | 53 => 232 | 55 => 199 | 4 => 4 | 46 => 225 | 45 => 224 | 50 => 229 | 5 => 5 | 9 => 9 | 66 => 237 | 70 => 241 | 76 => 243 | 77 => 244 | n => n, fun | n => n⟩
theorem sortPt : Go.Proofs.SlLaysF0.n6 Try.prog sortPt_ren := {
 mixed := by kernel_rfl
 f6 := ⟨Try.f101.name, by decide, Try.func101.trans (congrArg some (by kernel_rfl))⟩
 f14 := ⟨Try.f140.name, by decide, Try.func140.trans (congrArg some (by kernel_rfl))⟩
 f15 := Try.func141.trans (congrArg some (by kernel_rfl))
 f20 := ⟨Try.f156.name, by decide, Try.func156.trans (congrArg some (by kernel_rfl))⟩
 f21 := ⟨Try.f157.name, by decide, Try.func157.trans (congrArg some (by kernel_rfl))⟩
 f22 := ⟨Try.f158.name, by decide, Try.func158.trans (congrArg some (by kernel_rfl))⟩
 f23 := ⟨Try.f159.name, by decide, Try.func159.trans (congrArg some (by kernel_rfl))⟩
 f24 := ⟨Try.f160.name, by decide, Try.func160.trans (congrArg some (by kernel_rfl))⟩
 f25 := ⟨Try.f161.name, by decide, Try.func161.trans (congrArg some (by kernel_rfl))⟩
 f26 := ⟨Try.f162.name, by decide, Try.func162.trans (congrArg some (by kernel_rfl))⟩
 f27 := ⟨Try.f163.name, by decide, Try.func163.trans (congrArg some (by kernel_rfl))⟩
 f28 := Try.func164.trans (congrArg some (by kernel_rfl))
 f29 := Try.func165.trans (congrArg some (by kernel_rfl))
 f46 := ⟨Try.f172.name, by decide, Try.func172.trans (congrArg some (by kernel_rfl))⟩
 f47 := Try.func173.trans (congrArg some (by kernel_rfl))
 f48 := Try.func174.trans (congrArg some (by kernel_rfl))
 f49 := ⟨Try.f175.name, by decide, Try.func175.trans (congrArg some (by kernel_rfl))⟩
 f50 := ⟨Try.f176.name, by decide, Try.func176.trans (congrArg some (by kernel_rfl))⟩
 f57 := ⟨Try.f178.name, by decide, Try.func178.trans (congrArg some (by kernel_rfl))⟩
 t0 := Try.underlying0
 a0 := Try.isAgg0
 z0 := Try.sizeOf0
 v0 := Try.zeroValue0
 t3 := Try.underlying3
 a3 := Try.isAgg3
 z3 := Try.sizeOf3
 v3 := Try.zeroValue3
 t4 := Try.underlying4
 a4 := Try.isAgg4
 z4 := Try.sizeOf4
 v4 := Try.zeroValue4
 t5 := Try.underlying5
 a5 := Try.isAgg5
 z5 := Try.sizeOf5
 v5 := Try.zeroValue5
 t9 := Try.underlying9
 a9 := Try.isAgg9
 z9 := Try.sizeOf9
 v9 := Try.zeroValue9
 t22 := Try.underlying53
 a22 := Try.isAgg53
 z22 := Try.sizeOf53
 v22 := Try.zeroValue53
 t25 := Try.underlying170
 a25 := Try.isAgg170
 z25 := Try.sizeOf170
 v25 := Try.zeroValue170
 t39 := Try.underlying209
 a39 := Try.isAgg209
 z39 := Try.sizeOf209
 v39 := Try.zeroValue209
 t45 := Try.underlying224
 a45 := Try.isAgg224
 z45 := Try.sizeOf224
 v45 := Try.zeroValue224
 t46 := Try.underlying225
 a46 := Try.isAgg225
 z46 := Try.sizeOf225
 v46 := Try.zeroValue225
 t50 := Try.underlying229
 a50 := Try.isAgg229
 z50 := Try.sizeOf229
 v50 := Try.zeroValue229
 t53 := Try.underlying232
 a53 := Try.isAgg232
 z53 := Try.sizeOf232
 v53 := Try.zeroValue232
 t55 := Try.underlying199
 a55 := Try.isAgg199
 z55 := Try.sizeOf199
 v55 := Try.zeroValue199
 t66 := Try.underlying237
 a66 := Try.isAgg237
 z66 := Try.sizeOf237
 v66 := Try.zeroValue237
 t70 := Try.underlying241
 a70 := Try.isAgg241
 z70 := Try.sizeOf241
 v70 := Try.zeroValue241
 t76 := Try.underlying243
 a76 := Try.isAgg243
 z76 := Try.sizeOf243
 v76 := Try.zeroValue243
 t77 := Try.underlying244
 a77 := Try.isAgg244
 z77 := Try.sizeOf244
 v77 := Try.zeroValue244 }
end Go.Proofs.Ytjhaakollekjeaa
