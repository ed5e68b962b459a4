/- The library's sort of numbers, laid in this program. Conditions: none. -/
import Derived.Test.YtgbcdfeflgnogaaRowI
import Derived.Shelf.SortM.Plain
import Derived.Shelf.SortM.SortNone
namespace Go.Proofs.Ytgbcdfeflgnogaa
open Go.RowKit
set_option linter.unusedVariables false
set_option linter.unusedSimpArgs false

def sortRen : Go.Shelf.Ren := ⟨fun | 5 => 121  | 8 => 208  | 7 => 207  | 19 => 264  | 20 => 265  | 10 => 255  | 11 => 256  | 12 => 257  | 13 => 258  | 14 => 259  | 15 => 260  | 16 => 261  | 17 => 262  | 18 => 263  | 30 => 296  | 31 => 297  | 32 => 298  | 33 => 299  | 34 => 300  | 35 => 301  | 40 => 320 | n => n, fun | 23 => 67  | 25 => 3  | 3 => 3  | 32 => 228  | 22 => 67  | 0 => 0  | 44 => 274  | 46 => 276  | 4 => 4  | 36 => 266  | 35 => 265  | 41 => 271  | 5 => 5  | 9 => 9  | 53 => 302  | 57 => 306  | 63 => 321  | 64 => 234 | n => n, fun | n => n⟩
theorem sortLays : SlLaysM.n5 Try.prog sortRen :=
  { mixed := by kernel_rfl
    f5 := ⟨Try.f121.name, by decide, Try.func121.trans (congrArg some (by kernel_rfl))⟩
    f7 := ⟨Try.f207.name, by decide, Try.func207.trans (congrArg some (by kernel_rfl))⟩
    f8 := Try.func208.trans (congrArg some (by kernel_rfl))
    f10 := ⟨Try.f255.name, by decide, Try.func255.trans (congrArg some (by kernel_rfl))⟩
    f11 := ⟨Try.f256.name, by decide, Try.func256.trans (congrArg some (by kernel_rfl))⟩
    f12 := ⟨Try.f257.name, by decide, Try.func257.trans (congrArg some (by kernel_rfl))⟩
    f13 := ⟨Try.f258.name, by decide, Try.func258.trans (congrArg some (by kernel_rfl))⟩
    f14 := ⟨Try.f259.name, by decide, Try.func259.trans (congrArg some (by kernel_rfl))⟩
    f15 := ⟨Try.f260.name, by decide, Try.func260.trans (congrArg some (by kernel_rfl))⟩
    f16 := ⟨Try.f261.name, by decide, Try.func261.trans (congrArg some (by kernel_rfl))⟩
    f17 := ⟨Try.f262.name, by decide, Try.func262.trans (congrArg some (by kernel_rfl))⟩
    f18 := ⟨Try.f263.name, by decide, Try.func263.trans (congrArg some (by kernel_rfl))⟩
    f19 := Try.func264.trans (congrArg some (by kernel_rfl))
    f20 := Try.func265.trans (congrArg some (by kernel_rfl))
    f30 := ⟨Try.f296.name, by decide, Try.func296.trans (congrArg some (by kernel_rfl))⟩
    f31 := Try.func297.trans (congrArg some (by kernel_rfl))
    f32 := Try.func298.trans (congrArg some (by kernel_rfl))
    f33 := ⟨Try.f299.name, by decide, Try.func299.trans (congrArg some (by kernel_rfl))⟩
    f34 := ⟨Try.f300.name, by decide, Try.func300.trans (congrArg some (by kernel_rfl))⟩
    f35 := ⟨Try.f301.name, by decide, Try.func301.trans (congrArg some (by kernel_rfl))⟩
    f40 := ⟨Try.f320.name, by decide, Try.func320.trans (congrArg some (by kernel_rfl))⟩
    t0 := Try.underlying0
    a0 := Try.isAgg0
    z0 := Try.sizeOf0
    v0 := Try.zeroValue0
    t3 := Try.underlying3
    a3 := Try.isAgg3
    z3 := Try.sizeOf3
    v3 := Try.zeroValue3
    t4 := Try.underlying4
    a4 := Try.isAgg4
    z4 := Try.sizeOf4
    v4 := Try.zeroValue4
    t5 := Try.underlying5
    a5 := Try.isAgg5
    z5 := Try.sizeOf5
    v5 := Try.zeroValue5
    t9 := Try.underlying9
    a9 := Try.isAgg9
    z9 := Try.sizeOf9
    v9 := Try.zeroValue9
    t22 := Try.underlying67
    a22 := Try.isAgg67
    z22 := Try.sizeOf67
    v22 := Try.zeroValue67
    t23 := Try.underlying67
    a23 := Try.isAgg67
    z23 := Try.sizeOf67
    v23 := Try.zeroValue67
    t25 := Try.underlying3
    a25 := Try.isAgg3
    z25 := Try.sizeOf3
    v25 := Try.zeroValue3
    t32 := Try.underlying228
    a32 := Try.isAgg228
    z32 := Try.sizeOf228
    v32 := Try.zeroValue228
    t35 := Try.underlying265
    a35 := Try.isAgg265
    z35 := Try.sizeOf265
    v35 := Try.zeroValue265
    t36 := Try.underlying266
    a36 := Try.isAgg266
    z36 := Try.sizeOf266
    v36 := Try.zeroValue266
    t41 := Try.underlying271
    a41 := Try.isAgg271
    z41 := Try.sizeOf271
    v41 := Try.zeroValue271
    t44 := Try.underlying274
    a44 := Try.isAgg274
    z44 := Try.sizeOf274
    v44 := Try.zeroValue274
    t46 := Try.underlying276
    a46 := Try.isAgg276
    z46 := Try.sizeOf276
    v46 := Try.zeroValue276
    t53 := Try.underlying302
    a53 := Try.isAgg302
    z53 := Try.sizeOf302
    v53 := Try.zeroValue302
    t57 := Try.underlying306
    a57 := Try.isAgg306
    z57 := Try.sizeOf306
    v57 := Try.zeroValue306
    t63 := Try.underlying321
    a63 := Try.isAgg321
    z63 := Try.sizeOf321
    v63 := Try.zeroValue321
    t64 := Try.underlying234
    a64 := Try.isAgg234
    z64 := Try.sizeOf234
    v64 := Try.zeroValue234 }
end Go.Proofs.Ytgbcdfeflgnogaa
