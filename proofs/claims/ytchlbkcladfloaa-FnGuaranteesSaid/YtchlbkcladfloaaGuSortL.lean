/- The shelf's contract of slices.Sort, laid at this seat's program. No condition. -/
import Derived.Shelf.SlGeneric
import Derived.Sort.OwnSortedInts
import Derived.Shelf.SortM.Plain
import Derived.Shelf.SortM.SortNone
import Derived.Ground.SlgmProg
import Derived.Test.YtchlbkcladfloaaProg
namespace Go.Proofs.Ytchlbkcladfloaa.DG
open Go Go.Proofs
open Go.Shelf
def mSort_ren : Go.Shelf.Ren := ⟨fun | 5 => 67 | 8 => 101 | 7 => 100 | 19 => 121 | 20 => 122 | 10 => 112 | 11 => 113 | 12 => 114 | 13 => 115 | 14 => 116 | 15 => 117 | 16 => 118 | 17 => 119 | 18 => 120 | 30 => 124 | 31 => 125 | 32 => 126 | 33 => 127 | 34 => 128 | 35 => 129 | 40 => 130 | n => n, fun | 23 => 24 | 25 => 2 | 3 => 3 | 32 => 87 | 22 => 24 | 0 => 0 | 44 => 100 | 46 => 68 | 4 => 4 | 36 => 107 | 35 => 106 | 41 => 112 | 5 => 5 | 9 => 9 | 53 => 116 | 57 => 120 | 63 => 122 | 64 => 123 | n => n, fun | n => n⟩
theorem mSort : Go.Proofs.SlLaysM.n5 Try.prog mSort_ren := {
 mixed := by kernel_rfl
 f5 := ⟨Try.f67.name, by decide, Try.func67.trans (congrArg some (by kernel_rfl))⟩
 f7 := ⟨Try.f100.name, by decide, Try.func100.trans (congrArg some (by kernel_rfl))⟩
 f8 := Try.func101.trans (congrArg some (by kernel_rfl))
 f10 := ⟨Try.f112.name, by decide, Try.func112.trans (congrArg some (by kernel_rfl))⟩
 f11 := ⟨Try.f113.name, by decide, Try.func113.trans (congrArg some (by kernel_rfl))⟩
 f12 := ⟨Try.f114.name, by decide, Try.func114.trans (congrArg some (by kernel_rfl))⟩
 f13 := ⟨Try.f115.name, by decide, Try.func115.trans (congrArg some (by kernel_rfl))⟩
 f14 := ⟨Try.f116.name, by decide, Try.func116.trans (congrArg some (by kernel_rfl))⟩
 f15 := ⟨Try.f117.name, by decide, Try.func117.trans (congrArg some (by kernel_rfl))⟩
 f16 := ⟨Try.f118.name, by decide, Try.func118.trans (congrArg some (by kernel_rfl))⟩
 f17 := ⟨Try.f119.name, by decide, Try.func119.trans (congrArg some (by kernel_rfl))⟩
 f18 := ⟨Try.f120.name, by decide, Try.func120.trans (congrArg some (by kernel_rfl))⟩
 f19 := Try.func121.trans (congrArg some (by kernel_rfl))
 f20 := Try.func122.trans (congrArg some (by kernel_rfl))
 f30 := ⟨Try.f124.name, by decide, Try.func124.trans (congrArg some (by kernel_rfl))⟩
 f31 := Try.func125.trans (congrArg some (by kernel_rfl))
 f32 := Try.func126.trans (congrArg some (by kernel_rfl))
 f33 := ⟨Try.f127.name, by decide, Try.func127.trans (congrArg some (by kernel_rfl))⟩
 f34 := ⟨Try.f128.name, by decide, Try.func128.trans (congrArg some (by kernel_rfl))⟩
 f35 := ⟨Try.f129.name, by decide, Try.func129.trans (congrArg some (by kernel_rfl))⟩
 f40 := ⟨Try.f130.name, by decide, Try.func130.trans (congrArg some (by kernel_rfl))⟩
 t0 := Try.underlying0
 a0 := Try.isAgg0
 z0 := Try.sizeOf0
 v0 := Try.zeroValue0
 t3 := Try.underlying3
 a3 := Try.isAgg3
 z3 := Try.sizeOf3
 v3 := Try.zeroValue3
 t4 := Try.underlying4
 a4 := Try.isAgg4
 z4 := Try.sizeOf4
 v4 := Try.zeroValue4
 t5 := Try.underlying5
 a5 := Try.isAgg5
 z5 := Try.sizeOf5
 v5 := Try.zeroValue5
 t9 := Try.underlying9
 a9 := Try.isAgg9
 z9 := Try.sizeOf9
 v9 := Try.zeroValue9
 t22 := Try.underlying24
 a22 := Try.isAgg24
 z22 := Try.sizeOf24
 v22 := Try.zeroValue24
 t23 := Try.underlying24
 a23 := Try.isAgg24
 z23 := Try.sizeOf24
 v23 := Try.zeroValue24
 t25 := Try.underlying2
 a25 := Try.isAgg2
 z25 := Try.sizeOf2
 v25 := Try.zeroValue2
 t32 := Try.underlying87
 a32 := Try.isAgg87
 z32 := Try.sizeOf87
 v32 := Try.zeroValue87
 t35 := Try.underlying106
 a35 := Try.isAgg106
 z35 := Try.sizeOf106
 v35 := Try.zeroValue106
 t36 := Try.underlying107
 a36 := Try.isAgg107
 z36 := Try.sizeOf107
 v36 := Try.zeroValue107
 t41 := Try.underlying112
 a41 := Try.isAgg112
 z41 := Try.sizeOf112
 v41 := Try.zeroValue112
 t44 := Try.underlying100
 a44 := Try.isAgg100
 z44 := Try.sizeOf100
 v44 := Try.zeroValue100
 t46 := Try.underlying68
 a46 := Try.isAgg68
 z46 := Try.sizeOf68
 v46 := Try.zeroValue68
 t53 := Try.underlying116
 a53 := Try.isAgg116
 z53 := Try.sizeOf116
 v53 := Try.zeroValue116
 t57 := Try.underlying120
 a57 := Try.isAgg120
 z57 := Try.sizeOf120
 v57 := Try.zeroValue120
 t63 := Try.underlying122
 a63 := Try.isAgg122
 z63 := Try.sizeOf122
 v63 := Try.zeroValue122
 t64 := Try.underlying123
 a64 := Try.isAgg123
 z64 := Try.sizeOf123
 v64 := Try.zeroValue123 }
end Go.Proofs.Ytchlbkcladfloaa.DG
