/- The library contracts that the walks lean on, laid at this translation: the numbers of its functions and types. -/
import Derived.Shelf.Strings.SlTrimAscii
import Derived.Shelf.SlGeneric
import Derived.Ground.NamesProg
import Derived.Ground.SlsfProg
import Derived.Test.YtpgdelfdaalhbaaDoorProg
namespace Go.Proofs
open Go.Shelf
def Tryd.lays160_ren : Go.Shelf.Ren := ⟨fun | 160 => 102 | 232 => 124 | 231 => 123 | 227 => 125 | 234 => 127 | 233 => 126 | 236 => 129 | 235 => 128 | 228 => 147 | 271 => 150 | 151 => 149 | 197 => 148 | 120 => 160 | 152 => 159 | 260 => 158 | 137 => 162 | 119 => 163 | 224 => 164 | 225 => 165 | 217 => 166 | 266 => 167 | n => n, fun | 9 => 9 | 4 => 4 | 3 => 3 | 5 => 5 | 117 => 126 | 116 => 125 | 0 => 0 | 124 => 129 | 21 => 21 | 105 => 143 | 46 => 130 | 119 => 149 | 139 => 152 | 138 => 151 | n => n, fun | 3 => 1 | 4 => 2 | n => n⟩
theorem Tryd.lays160 : Go.Proofs.Lays.n160 Tryd.prog Tryd.lays160_ren := {
  mixed := by kernel_rfl
  f119 := Tryd.func163.trans (congrArg some (by kernel_rfl))
  f120 := Tryd.func160.trans (congrArg some (by kernel_rfl))
  f137 := Tryd.func162.trans (congrArg some (by kernel_rfl))
  f151 := Tryd.func149.trans (congrArg some (by kernel_rfl))
  f152 := Tryd.func159.trans (congrArg some (by kernel_rfl))
  f160 := Tryd.func102.trans (congrArg some (by kernel_rfl))
  f197 := Tryd.func148.trans (congrArg some (by kernel_rfl))
  f217 := Tryd.func166.trans (congrArg some (by kernel_rfl))
  f224 := Tryd.func164.trans (congrArg some (by kernel_rfl))
  f225 := Tryd.func165.trans (congrArg some (by kernel_rfl))
  f227 := Tryd.func125.trans (congrArg some (by kernel_rfl))
  f228 := Tryd.func147.trans (congrArg some (by kernel_rfl))
  f231 := Tryd.func123.trans (congrArg some (by kernel_rfl))
  f232 := Tryd.func124.trans (congrArg some (by kernel_rfl))
  f233 := Tryd.func126.trans (congrArg some (by kernel_rfl))
  f234 := Tryd.func127.trans (congrArg some (by kernel_rfl))
  f235 := Tryd.func128.trans (congrArg some (by kernel_rfl))
  f236 := Tryd.func129.trans (congrArg some (by kernel_rfl))
  f260 := Tryd.func158.trans (congrArg some (by kernel_rfl))
  f266 := Tryd.func167.trans (congrArg some (by kernel_rfl))
  f271 := Tryd.func150.trans (congrArg some (by kernel_rfl))
  t0 := Tryd.underlying0
  a0 := Tryd.isAgg0
  z0 := Tryd.sizeOf0
  v0 := Tryd.zeroValue0
  t3 := Tryd.underlying3
  a3 := Tryd.isAgg3
  z3 := Tryd.sizeOf3
  v3 := Tryd.zeroValue3
  t4 := Tryd.underlying4
  a4 := Tryd.isAgg4
  z4 := Tryd.sizeOf4
  v4 := Tryd.zeroValue4
  t5 := Tryd.underlying5
  a5 := Tryd.isAgg5
  z5 := Tryd.sizeOf5
  v5 := Tryd.zeroValue5
  t9 := Tryd.underlying9
  a9 := Tryd.isAgg9
  z9 := Tryd.sizeOf9
  v9 := Tryd.zeroValue9
  t21 := Tryd.underlying21
  a21 := Tryd.isAgg21
  z21 := Tryd.sizeOf21
  v21 := Tryd.zeroValue21
  t46 := Tryd.underlying130
  a46 := Tryd.isAgg130
  z46 := Tryd.sizeOf130
  v46 := Tryd.zeroValue130
  t105 := Tryd.underlying143
  a105 := Tryd.isAgg143
  z105 := Tryd.sizeOf143
  v105 := Tryd.zeroValue143
  t116 := Tryd.underlying125
  a116 := Tryd.isAgg125
  z116 := Tryd.sizeOf125
  t117 := Tryd.underlying126
  a117 := Tryd.isAgg126
  z117 := Tryd.sizeOf126
  v117 := Tryd.zeroValue126
  t119 := Tryd.underlying149
  a119 := Tryd.isAgg149
  z119 := Tryd.sizeOf149
  t124 := Tryd.underlying129
  a124 := Tryd.isAgg129
  z124 := Tryd.sizeOf129
  v124 := Tryd.zeroValue129
  t138 := Tryd.underlying151
  a138 := Tryd.isAgg151
  z138 := Tryd.sizeOf151
  v138 := Tryd.zeroValue151
  t139 := Tryd.underlying152
  a139 := Tryd.isAgg152
  z139 := Tryd.sizeOf152
  v139 := Tryd.zeroValue152
  g3 := by kernel_rfl
  g4 := by kernel_rfl }
end Go.Proofs
