import Derived.Shelf.Strings.SlTrimAscii
import Derived.Test.YtdagocpgefjmdaaDoorProg
namespace Go.Proofs
open Go.Shelf
def Tryd.lays160_ren : Go.Shelf.Ren := ⟨fun | 160 => 140 | 232 => 173 | 231 => 172 | 227 => 174 | 234 => 176 | 233 => 175 | 236 => 178 | 235 => 177 | 228 => 205 | 271 => 207 | 151 => 206 | 197 => 199 | 120 => 228 | 152 => 227 | 260 => 221 | 137 => 129 | 119 => 238 | 224 => 239 | 225 => 240 | 217 => 163 | 266 => 202 | n => n, fun | 9 => 9 | 4 => 4 | 3 => 3 | 5 => 5 | 117 => 226 | 116 => 225 | 0 => 0 | 124 => 229 | 21 => 21 | 105 => 249 | 46 => 205 | 119 => 212 | 139 => 291 | 138 => 290 | n => n, fun | 3 => 4 | 4 => 5 | n => n⟩
theorem Tryd.lays160 : Go.Proofs.Lays.n160 Tryd.prog Tryd.lays160_ren := {
  mixed := by kernel_rfl
  f119 := Tryd.func238.trans (congrArg some (by kernel_rfl))
  f120 := Tryd.func228.trans (congrArg some (by kernel_rfl))
  f137 := Tryd.func129.trans (congrArg some (by kernel_rfl))
  f151 := Tryd.func206.trans (congrArg some (by kernel_rfl))
  f152 := Tryd.func227.trans (congrArg some (by kernel_rfl))
  f160 := Tryd.func140.trans (congrArg some (by kernel_rfl))
  f197 := Tryd.func199.trans (congrArg some (by kernel_rfl))
  f217 := Tryd.func163.trans (congrArg some (by kernel_rfl))
  f224 := Tryd.func239.trans (congrArg some (by kernel_rfl))
  f225 := Tryd.func240.trans (congrArg some (by kernel_rfl))
  f227 := Tryd.func174.trans (congrArg some (by kernel_rfl))
  f228 := Tryd.func205.trans (congrArg some (by kernel_rfl))
  f231 := Tryd.func172.trans (congrArg some (by kernel_rfl))
  f232 := Tryd.func173.trans (congrArg some (by kernel_rfl))
  f233 := Tryd.func175.trans (congrArg some (by kernel_rfl))
  f234 := Tryd.func176.trans (congrArg some (by kernel_rfl))
  f235 := Tryd.func177.trans (congrArg some (by kernel_rfl))
  f236 := Tryd.func178.trans (congrArg some (by kernel_rfl))
  f260 := Tryd.func221.trans (congrArg some (by kernel_rfl))
  f266 := Tryd.func202.trans (congrArg some (by kernel_rfl))
  f271 := Tryd.func207.trans (congrArg some (by kernel_rfl))
  t0 := Tryd.underlying0
  a0 := Tryd.isAgg0
  z0 := Tryd.sizeOf0
  v0 := Tryd.zeroValue0
  t3 := Tryd.underlying3
  a3 := Tryd.isAgg3
  z3 := Tryd.sizeOf3
  v3 := Tryd.zeroValue3
  t4 := Tryd.underlying4
  a4 := Tryd.isAgg4
  z4 := Tryd.sizeOf4
  v4 := Tryd.zeroValue4
  t5 := Tryd.underlying5
  a5 := Tryd.isAgg5
  z5 := Tryd.sizeOf5
  v5 := Tryd.zeroValue5
  t9 := Tryd.underlying9
  a9 := Tryd.isAgg9
  z9 := Tryd.sizeOf9
  v9 := Tryd.zeroValue9
  t21 := Tryd.underlying21
  a21 := Tryd.isAgg21
  z21 := Tryd.sizeOf21
  v21 := Tryd.zeroValue21
  t46 := Tryd.underlying205
  a46 := Tryd.isAgg205
  z46 := Tryd.sizeOf205
  v46 := Tryd.zeroValue205
  t105 := Tryd.underlying249
  a105 := Tryd.isAgg249
  z105 := Tryd.sizeOf249
  v105 := Tryd.zeroValue249
  t116 := Tryd.underlying225
  a116 := Tryd.isAgg225
  z116 := Tryd.sizeOf225
  t117 := Tryd.underlying226
  a117 := Tryd.isAgg226
  z117 := Tryd.sizeOf226
  v117 := Tryd.zeroValue226
  t119 := Tryd.underlying212
  a119 := Tryd.isAgg212
  z119 := Tryd.sizeOf212
  t124 := Tryd.underlying229
  a124 := Tryd.isAgg229
  z124 := Tryd.sizeOf229
  v124 := Tryd.zeroValue229
  t138 := Tryd.underlying290
  a138 := Tryd.isAgg290
  z138 := Tryd.sizeOf290
  v138 := Tryd.zeroValue290
  t139 := Tryd.underlying291
  a139 := Tryd.isAgg291
  z139 := Tryd.sizeOf291
  v139 := Tryd.zeroValue291
  g3 := by kernel_rfl
  g4 := by kernel_rfl }
def Tryd.lays106_ren : Go.Shelf.Ren := ⟨fun | 106 => 92 | 213 => 141 | 265 => 179 | n => n, fun | 9 => 9 | 3 => 3 | n => n, fun | n => n⟩
theorem Tryd.lays106 : Go.Proofs.Lays.n106 Tryd.prog Tryd.lays106_ren := {
  mixed := by kernel_rfl
  f106 := Tryd.func92.trans (congrArg some (by kernel_rfl))
  f213 := Tryd.func141.trans (congrArg some (by kernel_rfl))
  f265 := Tryd.func179.trans (congrArg some (by kernel_rfl))
  t3 := Tryd.underlying3
  a3 := Tryd.isAgg3
  z3 := Tryd.sizeOf3
  v3 := Tryd.zeroValue3
  t9 := Tryd.underlying9
  a9 := Tryd.isAgg9
  z9 := Tryd.sizeOf9
  v9 := Tryd.zeroValue9 }
open Go.RowKit in
theorem Tryd.strings_Compare (a b : ByteArray) (w : World) :
    Calls Tryd.prog 92 #[.string a, .string b] w fun e w' => e = .returned (.int .i64 (Lib.compareBytes a.data.toList b.data.toList)) ∧ w' = w := Any.strings_Compare Tryd.lays106 a b w
def Tryd.lays137_ren : Go.Shelf.Ren := ⟨fun | 137 => 129 | 217 => 163 | 266 => 202 | n => n, fun | 9 => 9 | 5 => 5 | 3 => 3 | n => n, fun | n => n⟩
theorem Tryd.lays137 : Go.Proofs.Lays.n137 Tryd.prog Tryd.lays137_ren := {
  mixed := by kernel_rfl
  f137 := Tryd.func129.trans (congrArg some (by kernel_rfl))
  f217 := Tryd.func163.trans (congrArg some (by kernel_rfl))
  f266 := Tryd.func202.trans (congrArg some (by kernel_rfl))
  t3 := Tryd.underlying3
  a3 := Tryd.isAgg3
  z3 := Tryd.sizeOf3
  v3 := Tryd.zeroValue3
  t5 := Tryd.underlying5
  a5 := Tryd.isAgg5
  z5 := Tryd.sizeOf5
  v5 := Tryd.zeroValue5
  t9 := Tryd.underlying9
  a9 := Tryd.isAgg9
  z9 := Tryd.sizeOf9
  v9 := Tryd.zeroValue9 }
open Go.RowKit in
theorem Tryd.strings_IndexByte (s : ByteArray) (c : Int) (w : World) :
    Calls Tryd.prog 129 #[.string s, .int .u8 c] w fun e w' => e = .returned (.int .i64 (Lib.indexByte s.data.toList c.toNat.toUInt8)) ∧ w' = w := Any.strings_IndexByte Tryd.lays137 s c w
end Go.Proofs
