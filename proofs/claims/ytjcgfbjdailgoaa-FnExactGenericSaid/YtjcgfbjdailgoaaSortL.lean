/- The library's sort of numbers, laid in this program. Conditions: none. -/
import Derived.Test.YtjcgfbjdailgoaaRowI
import Derived.Shelf.SortM.Plain
import Derived.Shelf.SortM.SortNone
namespace Go.Proofs.Ytjcgfbjdailgoaa
open Go.RowKit
set_option linter.unusedVariables false
set_option linter.unusedSimpArgs false

def sortRen : Go.Shelf.Ren := ⟨fun | 5 => 118  | 8 => 186  | 7 => 185  | 19 => 250  | 20 => 251  | 10 => 241  | 11 => 242  | 12 => 243  | 13 => 244  | 14 => 245  | 15 => 246  | 16 => 247  | 17 => 248  | 18 => 249  | 30 => 279  | 31 => 280  | 32 => 281  | 33 => 282  | 34 => 283  | 35 => 284  | 40 => 293 | n => n, fun | 23 => 25  | 25 => 3  | 3 => 3  | 32 => 257  | 22 => 25  | 0 => 0  | 44 => 301  | 46 => 303  | 4 => 4  | 36 => 294  | 35 => 293  | 41 => 150  | 5 => 5  | 9 => 9  | 53 => 314  | 57 => 318  | 63 => 326  | 64 => 246 | n => n, fun | n => n⟩
theorem sortLays : SlLaysM.n5 Try.prog sortRen :=
  { mixed := by kernel_rfl
    f5 := ⟨Try.f118.name, by decide, Try.func118.trans (congrArg some (by kernel_rfl))⟩
    f7 := ⟨Try.f185.name, by decide, Try.func185.trans (congrArg some (by kernel_rfl))⟩
    f8 := Try.func186.trans (congrArg some (by kernel_rfl))
    f10 := ⟨Try.f241.name, by decide, Try.func241.trans (congrArg some (by kernel_rfl))⟩
    f11 := ⟨Try.f242.name, by decide, Try.func242.trans (congrArg some (by kernel_rfl))⟩
    f12 := ⟨Try.f243.name, by decide, Try.func243.trans (congrArg some (by kernel_rfl))⟩
    f13 := ⟨Try.f244.name, by decide, Try.func244.trans (congrArg some (by kernel_rfl))⟩
    f14 := ⟨Try.f245.name, by decide, Try.func245.trans (congrArg some (by kernel_rfl))⟩
    f15 := ⟨Try.f246.name, by decide, Try.func246.trans (congrArg some (by kernel_rfl))⟩
    f16 := ⟨Try.f247.name, by decide, Try.func247.trans (congrArg some (by kernel_rfl))⟩
    f17 := ⟨Try.f248.name, by decide, Try.func248.trans (congrArg some (by kernel_rfl))⟩
    f18 := ⟨Try.f249.name, by decide, Try.func249.trans (congrArg some (by kernel_rfl))⟩
    f19 := Try.func250.trans (congrArg some (by kernel_rfl))
    f20 := Try.func251.trans (congrArg some (by kernel_rfl))
    f30 := ⟨Try.f279.name, by decide, Try.func279.trans (congrArg some (by kernel_rfl))⟩
    f31 := Try.func280.trans (congrArg some (by kernel_rfl))
    f32 := Try.func281.trans (congrArg some (by kernel_rfl))
    f33 := ⟨Try.f282.name, by decide, Try.func282.trans (congrArg some (by kernel_rfl))⟩
    f34 := ⟨Try.f283.name, by decide, Try.func283.trans (congrArg some (by kernel_rfl))⟩
    f35 := ⟨Try.f284.name, by decide, Try.func284.trans (congrArg some (by kernel_rfl))⟩
    f40 := ⟨Try.f293.name, by decide, Try.func293.trans (congrArg some (by kernel_rfl))⟩
    t0 := Try.underlying0
    a0 := Try.isAgg0
    z0 := Try.sizeOf0
    v0 := Try.zeroValue0
    t3 := Try.underlying3
    a3 := Try.isAgg3
    z3 := Try.sizeOf3
    v3 := Try.zeroValue3
    t4 := Try.underlying4
    a4 := Try.isAgg4
    z4 := Try.sizeOf4
    v4 := Try.zeroValue4
    t5 := Try.underlying5
    a5 := Try.isAgg5
    z5 := Try.sizeOf5
    v5 := Try.zeroValue5
    t9 := Try.underlying9
    a9 := Try.isAgg9
    z9 := Try.sizeOf9
    v9 := Try.zeroValue9
    t22 := Try.underlying25
    a22 := Try.isAgg25
    z22 := Try.sizeOf25
    v22 := Try.zeroValue25
    t23 := Try.underlying25
    a23 := Try.isAgg25
    z23 := Try.sizeOf25
    v23 := Try.zeroValue25
    t25 := Try.underlying3
    a25 := Try.isAgg3
    z25 := Try.sizeOf3
    v25 := Try.zeroValue3
    t32 := Try.underlying257
    a32 := Try.isAgg257
    z32 := Try.sizeOf257
    v32 := Try.zeroValue257
    t35 := Try.underlying293
    a35 := Try.isAgg293
    z35 := Try.sizeOf293
    v35 := Try.zeroValue293
    t36 := Try.underlying294
    a36 := Try.isAgg294
    z36 := Try.sizeOf294
    v36 := Try.zeroValue294
    t41 := Try.underlying150
    a41 := Try.isAgg150
    z41 := Try.sizeOf150
    v41 := Try.zeroValue150
    t44 := Try.underlying301
    a44 := Try.isAgg301
    z44 := Try.sizeOf301
    v44 := Try.zeroValue301
    t46 := Try.underlying303
    a46 := Try.isAgg303
    z46 := Try.sizeOf303
    v46 := Try.zeroValue303
    t53 := Try.underlying314
    a53 := Try.isAgg314
    z53 := Try.sizeOf314
    v53 := Try.zeroValue314
    t57 := Try.underlying318
    a57 := Try.isAgg318
    z57 := Try.sizeOf318
    v57 := Try.zeroValue318
    t63 := Try.underlying326
    a63 := Try.isAgg326
    z63 := Try.sizeOf326
    v63 := Try.zeroValue326
    t64 := Try.underlying246
    a64 := Try.isAgg246
    z64 := Try.sizeOf246
    v64 := Try.zeroValue246 }
end Go.Proofs.Ytjcgfbjdailgoaa
