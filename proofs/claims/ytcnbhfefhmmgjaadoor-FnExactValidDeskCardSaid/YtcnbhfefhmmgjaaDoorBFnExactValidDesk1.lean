/- The statement FnExactValidDesk, with all that its proof stands on: functions of the program as plain functions, the program's walks, and the plain law. Conditions: none beyond the statement's own. -/
import Derived.Shelf.LaysM
import Derived.Shelf.Small.Strs
import Derived.Shelf.Small.Utf8
import Derived.Shelf.Strconv.Itoa0
import Derived.Shelf.Strconv.Itoa1
import Derived.Shelf.Strconv.Itoa2
import Derived.Shelf.Strconv.Itoa3
import Derived.Shelf.Strconv.Itoa4
import Derived.Shelf.Strings.AsciiSet
import Derived.Shelf.Strings.Builder1
import Derived.Shelf.Strings.BuilderF
import Derived.Shelf.Strings.Cut
import Derived.Shelf.Strings.Prefix
import Derived.Shelf.Strings.Runes
import Derived.Shelf.Strings.Search1
import Derived.Shelf.Strings.Search2
import Derived.Shelf.Strings.Search3
import Derived.Shelf.Strings.Shaped
import Derived.Shelf.Strings.Trim
import Derived.Shelf.Unicode.Decode
import Derived.Shelf.Unicode.DecodeAny
import Derived.Shelf.Unicode.DecodeLast
import Derived.Shelf.Unicode.DecodeSlow
import Derived.Test.YtcnbhfefhmmgjaaDoorProg
set_option linter.unusedVariables false
set_option linter.unusedSimpArgs false
namespace Go.Proofs
open Go.Shelf
def Tryd.lays160_ren : Go.Shelf.Ren := ⟨fun | 160 => 67 | 232 => 88 | 231 => 87 | 227 => 89 | 234 => 91 | 233 => 90 | 236 => 93 | 235 => 92 | 228 => 107 | 271 => 110 | 151 => 109 | 197 => 108 | 120 => 119 | 152 => 118 | 260 => 117 | 137 => 56 | 119 => 122 | 224 => 103 | 225 => 102 | 217 => 81 | 266 => 105 | n => n, fun | 9 => 9 | 4 => 4 | 3 => 3 | 5 => 5 | 117 => 122 | 116 => 121 | 0 => 0 | 124 => 125 | 21 => 21 | 105 => 139 | 46 => 127 | 119 => 152 | 139 => 155 | 138 => 154 | n => n, fun | 3 => 2 | 4 => 3 | n => n⟩
theorem Tryd.lays160 : Go.Proofs.Lays.n160 Tryd.prog Tryd.lays160_ren := {
 mixed := by kernel_rfl
 f119 := Tryd.func122.trans (congrArg some (by kernel_rfl))
 f120 := Tryd.func119.trans (congrArg some (by kernel_rfl))
 f137 := Tryd.func56.trans (congrArg some (by kernel_rfl))
 f151 := Tryd.func109.trans (congrArg some (by kernel_rfl))
 f152 := Tryd.func118.trans (congrArg some (by kernel_rfl))
 f160 := Tryd.func67.trans (congrArg some (by kernel_rfl))
 f197 := Tryd.func108.trans (congrArg some (by kernel_rfl))
 f217 := Tryd.func81.trans (congrArg some (by kernel_rfl))
 f224 := Tryd.func103.trans (congrArg some (by kernel_rfl))
 f225 := Tryd.func102.trans (congrArg some (by kernel_rfl))
 f227 := Tryd.func89.trans (congrArg some (by kernel_rfl))
 f228 := Tryd.func107.trans (congrArg some (by kernel_rfl))
 f231 := Tryd.func87.trans (congrArg some (by kernel_rfl))
 f232 := Tryd.func88.trans (congrArg some (by kernel_rfl))
 f233 := Tryd.func90.trans (congrArg some (by kernel_rfl))
 f234 := Tryd.func91.trans (congrArg some (by kernel_rfl))
 f235 := Tryd.func92.trans (congrArg some (by kernel_rfl))
 f236 := Tryd.func93.trans (congrArg some (by kernel_rfl))
 f260 := Tryd.func117.trans (congrArg some (by kernel_rfl))
 f266 := Tryd.func105.trans (congrArg some (by kernel_rfl))
 f271 := Tryd.func110.trans (congrArg some (by kernel_rfl))
 t0 := Tryd.underlying0
 a0 := Tryd.isAgg0
 z0 := Tryd.sizeOf0
 v0 := Tryd.zeroValue0
 t3 := Tryd.underlying3
 a3 := Tryd.isAgg3
 z3 := Tryd.sizeOf3
 v3 := Tryd.zeroValue3
 t4 := Tryd.underlying4
 a4 := Tryd.isAgg4
 z4 := Tryd.sizeOf4
 v4 := Tryd.zeroValue4
 t5 := Tryd.underlying5
 a5 := Tryd.isAgg5
 z5 := Tryd.sizeOf5
 v5 := Tryd.zeroValue5
 t9 := Tryd.underlying9
 a9 := Tryd.isAgg9
 z9 := Tryd.sizeOf9
 v9 := Tryd.zeroValue9
 t21 := Tryd.underlying21
 a21 := Tryd.isAgg21
 z21 := Tryd.sizeOf21
 v21 := Tryd.zeroValue21
 t46 := Tryd.underlying127
 a46 := Tryd.isAgg127
 z46 := Tryd.sizeOf127
 v46 := Tryd.zeroValue127
 t105 := Tryd.underlying139
 a105 := Tryd.isAgg139
 z105 := Tryd.sizeOf139
 v105 := Tryd.zeroValue139
 t116 := Tryd.underlying121
 a116 := Tryd.isAgg121
 z116 := Tryd.sizeOf121
 t117 := Tryd.underlying122
 a117 := Tryd.isAgg122
 z117 := Tryd.sizeOf122
 v117 := Tryd.zeroValue122
 t119 := Tryd.underlying152
 a119 := Tryd.isAgg152
 z119 := Tryd.sizeOf152
 t124 := Tryd.underlying125
 a124 := Tryd.isAgg125
 z124 := Tryd.sizeOf125
 v124 := Tryd.zeroValue125
 t138 := Tryd.underlying154
 a138 := Tryd.isAgg154
 z138 := Tryd.sizeOf154
 v138 := Tryd.zeroValue154
 t139 := Tryd.underlying155
 a139 := Tryd.isAgg155
 z139 := Tryd.sizeOf155
 v139 := Tryd.zeroValue155
 g3 := by kernel_rfl
 g4 := by kernel_rfl }
end Go.Proofs
