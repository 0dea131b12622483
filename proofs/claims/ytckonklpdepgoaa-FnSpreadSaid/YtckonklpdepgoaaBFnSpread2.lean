/- The statement FnSpread, with all that its proof stands on: functions of the program as plain functions, the program's walks, and the plain law. Conditions: none beyond the statement's own. -/
import Derived.Ground.SlgmProg
import Derived.Ground.SlgnProg
import Derived.Shelf.SlicesE.Clone
import Derived.Shelf.Small.Bits
import Derived.Shelf.Small.Strs
import Derived.Shelf.SortM.Plain
import Derived.Shelf.Strconv.Itoa0
import Derived.Shelf.Strings.Search1
import Derived.Test.YtckonklpdepgoaaProg
set_option linter.unusedVariables false
set_option linter.unusedSimpArgs false
namespace Go.Proofs
open Go.Shelf
def Try.laysSlM5_f83_ren : Go.Shelf.Ren := ⟨fun | 5 => 83 | 8 => 116 | 7 => 115 | 19 => 136 | 20 => 137 | 10 => 127 | 11 => 128 | 12 => 129 | 13 => 130 | 14 => 131 | 15 => 132 | 16 => 133 | 17 => 134 | 18 => 135 | 30 => 141 | 31 => 142 | 32 => 143 | 33 => 144 | 34 => 145 | 35 => 146 | 40 => 148 | n => n, fun | 23 => 34 | 25 => 2 | 3 => 3 | 32 => 31 | 22 => 34 | 0 => 0 | 44 => 145 | 46 => 119 | 4 => 4 | 36 => 137 | 35 => 136 | 41 => 142 | 5 => 5 | 9 => 9 | 53 => 148 | 57 => 152 | 63 => 155 | 64 => 156 | n => n, fun | n => n⟩
theorem Try.laysSlM5_f83 : Go.Proofs.SlLaysM.n5 Try.prog Try.laysSlM5_f83_ren := {
 mixed := by kernel_rfl
 f5 := ⟨Try.f83.name, by decide, Try.func83.trans (congrArg some (by kernel_rfl))⟩
 f7 := ⟨Try.f115.name, by decide, Try.func115.trans (congrArg some (by kernel_rfl))⟩
 f8 := Try.func116.trans (congrArg some (by kernel_rfl))
 f10 := ⟨Try.f127.name, by decide, Try.func127.trans (congrArg some (by kernel_rfl))⟩
 f11 := ⟨Try.f128.name, by decide, Try.func128.trans (congrArg some (by kernel_rfl))⟩
 f12 := ⟨Try.f129.name, by decide, Try.func129.trans (congrArg some (by kernel_rfl))⟩
 f13 := ⟨Try.f130.name, by decide, Try.func130.trans (congrArg some (by kernel_rfl))⟩
 f14 := ⟨Try.f131.name, by decide, Try.func131.trans (congrArg some (by kernel_rfl))⟩
 f15 := ⟨Try.f132.name, by decide, Try.func132.trans (congrArg some (by kernel_rfl))⟩
 f16 := ⟨Try.f133.name, by decide, Try.func133.trans (congrArg some (by kernel_rfl))⟩
 f17 := ⟨Try.f134.name, by decide, Try.func134.trans (congrArg some (by kernel_rfl))⟩
 f18 := ⟨Try.f135.name, by decide, Try.func135.trans (congrArg some (by kernel_rfl))⟩
 f19 := Try.func136.trans (congrArg some (by kernel_rfl))
 f20 := Try.func137.trans (congrArg some (by kernel_rfl))
 f30 := ⟨Try.f141.name, by decide, Try.func141.trans (congrArg some (by kernel_rfl))⟩
 f31 := Try.func142.trans (congrArg some (by kernel_rfl))
 f32 := Try.func143.trans (congrArg some (by kernel_rfl))
 f33 := ⟨Try.f144.name, by decide, Try.func144.trans (congrArg some (by kernel_rfl))⟩
 f34 := ⟨Try.f145.name, by decide, Try.func145.trans (congrArg some (by kernel_rfl))⟩
 f35 := ⟨Try.f146.name, by decide, Try.func146.trans (congrArg some (by kernel_rfl))⟩
 f40 := ⟨Try.f148.name, by decide, Try.func148.trans (congrArg some (by kernel_rfl))⟩
 t0 := Try.underlying0
 a0 := Try.isAgg0
 z0 := Try.sizeOf0
 v0 := Try.zeroValue0
 t3 := Try.underlying3
 a3 := Try.isAgg3
 z3 := Try.sizeOf3
 v3 := Try.zeroValue3
 t4 := Try.underlying4
 a4 := Try.isAgg4
 z4 := Try.sizeOf4
 v4 := Try.zeroValue4
 t5 := Try.underlying5
 a5 := Try.isAgg5
 z5 := Try.sizeOf5
 v5 := Try.zeroValue5
 t9 := Try.underlying9
 a9 := Try.isAgg9
 z9 := Try.sizeOf9
 v9 := Try.zeroValue9
 t22 := Try.underlying34
 a22 := Try.isAgg34
 z22 := Try.sizeOf34
 v22 := Try.zeroValue34
 t23 := Try.underlying34
 a23 := Try.isAgg34
 z23 := Try.sizeOf34
 v23 := Try.zeroValue34
 t25 := Try.underlying2
 a25 := Try.isAgg2
 z25 := Try.sizeOf2
 v25 := Try.zeroValue2
 t32 := Try.underlying31
 a32 := Try.isAgg31
 z32 := Try.sizeOf31
 v32 := Try.zeroValue31
 t35 := Try.underlying136
 a35 := Try.isAgg136
 z35 := Try.sizeOf136
 v35 := Try.zeroValue136
 t36 := Try.underlying137
 a36 := Try.isAgg137
 z36 := Try.sizeOf137
 v36 := Try.zeroValue137
 t41 := Try.underlying142
 a41 := Try.isAgg142
 z41 := Try.sizeOf142
 v41 := Try.zeroValue142
 t44 := Try.underlying145
 a44 := Try.isAgg145
 z44 := Try.sizeOf145
 v44 := Try.zeroValue145
 t46 := Try.underlying119
 a46 := Try.isAgg119
 z46 := Try.sizeOf119
 v46 := Try.zeroValue119
 t53 := Try.underlying148
 a53 := Try.isAgg148
 z53 := Try.sizeOf148
 v53 := Try.zeroValue148
 t57 := Try.underlying152
 a57 := Try.isAgg152
 z57 := Try.sizeOf152
 v57 := Try.zeroValue152
 t63 := Try.underlying155
 a63 := Try.isAgg155
 z63 := Try.sizeOf155
 v63 := Try.zeroValue155
 t64 := Try.underlying156
 a64 := Try.isAgg156
 z64 := Try.sizeOf156
 v64 := Try.zeroValue156 }
open Go.Sort Go.RowKit in
theorem Try.slices_Sort_int (blk off cap : Nat) (zs : List Int) (w : World) (hH : Holds (Value.int .i64) w blk off zs.toArray) (hblk : blk < w.heap.size) (hsz : zs.length < 4611686018427387904) :
  Calls Try.prog 83 #[.slice (some ⟨blk, off, none⟩) zs.length cap] w fun e w' =>
   e = .returned (.tuple #[]) ∧ ∃ n os, w' = grow (putRow (Value.int .i64) (Sort.ahead w n) blk off (zs.mergeSort fun x y => decide (x ≤ y)).toArray) os := AnyM.slices_Sort_int Try.laysSlM5_f83 blk off cap zs w hH hblk hsz
end Go.Proofs
