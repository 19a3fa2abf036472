import Derived.Shelf.Strconv.Itoa3
import Derived.Test.YtdagocpgefjmdaaDoorProg
namespace Go.Proofs
open Go.Shelf
def Tryd.lays171_ren : Go.Shelf.Ren := ⟨fun | 171 => 99 | 243 => 147 | 246 => 183 | 283 => 209 | 284 => 210 | 285 => 211 | 286 => 212 | 129 => 193 | 317 => 230 | 318 => 231 | 319 => 232 | 320 => 233 | 337 => 241 | 338 => 242 | n => n, fun | 3 => 3 | 9 => 9 | 2 => 2 | 4 => 4 | 171 => 255 | 0 => 0 | 53 => 191 | 37 => 209 | 5 => 5 | 173 => 257 | 212 => 283 | 51 => 242 | 20 => 20 | 213 => 284 | 46 => 205 | 232 => 302 | 233 => 303 | n => n, fun | 17 => 3 | 18 => 8 | 19 => 9 | n => n⟩
theorem Tryd.lays171 : Go.Proofs.Lays.n171 Tryd.prog Tryd.lays171_ren := {
  mixed := by kernel_rfl
  f129 := Tryd.func193.trans (congrArg some (by kernel_rfl))
  f171 := Tryd.func99.trans (congrArg some (by kernel_rfl))
  f243 := Tryd.func147.trans (congrArg some (by kernel_rfl))
  f246 := Tryd.func183.trans (congrArg some (by kernel_rfl))
  f283 := Tryd.func209.trans (congrArg some (by kernel_rfl))
  f284 := Tryd.func210.trans (congrArg some (by kernel_rfl))
  f285 := Tryd.func211.trans (congrArg some (by kernel_rfl))
  f286 := Tryd.func212.trans (congrArg some (by kernel_rfl))
  f317 := Tryd.func230.trans (congrArg some (by kernel_rfl))
  f318 := Tryd.func231.trans (congrArg some (by kernel_rfl))
  f319 := Tryd.func232.trans (congrArg some (by kernel_rfl))
  f320 := Tryd.func233.trans (congrArg some (by kernel_rfl))
  f337 := Tryd.func241.trans (congrArg some (by kernel_rfl))
  f338 := Tryd.func242.trans (congrArg some (by kernel_rfl))
  t0 := Tryd.underlying0
  a0 := Tryd.isAgg0
  z0 := Tryd.sizeOf0
  v0 := Tryd.zeroValue0
  t2 := Tryd.underlying2
  a2 := Tryd.isAgg2
  z2 := Tryd.sizeOf2
  v2 := Tryd.zeroValue2
  t3 := Tryd.underlying3
  a3 := Tryd.isAgg3
  z3 := Tryd.sizeOf3
  v3 := Tryd.zeroValue3
  t4 := Tryd.underlying4
  a4 := Tryd.isAgg4
  z4 := Tryd.sizeOf4
  v4 := Tryd.zeroValue4
  t5 := Tryd.underlying5
  a5 := Tryd.isAgg5
  z5 := Tryd.sizeOf5
  v5 := Tryd.zeroValue5
  t9 := Tryd.underlying9
  a9 := Tryd.isAgg9
  z9 := Tryd.sizeOf9
  v9 := Tryd.zeroValue9
  t20 := Tryd.underlying20
  a20 := Tryd.isAgg20
  z20 := Tryd.sizeOf20
  v20 := Tryd.zeroValue20
  t37 := Tryd.underlying209
  a37 := Tryd.isAgg209
  z37 := Tryd.sizeOf209
  v37 := Tryd.zeroValue209
  t46 := Tryd.underlying205
  a46 := Tryd.isAgg205
  z46 := Tryd.sizeOf205
  v46 := Tryd.zeroValue205
  t51 := Tryd.underlying242
  a51 := Tryd.isAgg242
  z51 := Tryd.sizeOf242
  v51 := Tryd.zeroValue242
  t53 := Tryd.underlying191
  a53 := Tryd.isAgg191
  z53 := Tryd.sizeOf191
  v53 := Tryd.zeroValue191
  t171 := Tryd.underlying255
  a171 := Tryd.isAgg255
  z171 := Tryd.sizeOf255
  v171 := Tryd.zeroValue255
  t173 := Tryd.underlying257
  a173 := Tryd.isAgg257
  z173 := Tryd.sizeOf257
  v173 := Tryd.zeroValue257
  t212 := Tryd.underlying283
  a212 := Tryd.isAgg283
  z212 := Tryd.sizeOf283
  v212 := Tryd.zeroValue283
  t213 := Tryd.underlying284
  a213 := Tryd.isAgg284
  z213 := Tryd.sizeOf284
  t232 := Tryd.underlying302
  a232 := Tryd.isAgg302
  z232 := Tryd.sizeOf302
  v232 := Tryd.zeroValue302
  t233 := Tryd.underlying303
  a233 := Tryd.isAgg303
  z233 := Tryd.sizeOf303
  v233 := Tryd.zeroValue303
  g17 := by kernel_rfl
  g18 := by kernel_rfl
  g19 := by kernel_rfl }
open Go.RowKit Go.Sort Go.Lib in
theorem Tryd.strconv_Itoa_small (i : Nat) (hi : i < 100) (w : World) :
    Calls Tryd.prog 99 #[.int .i64 i] w fun e w' => e = .returned (.string ⟨(Lib.decDigits i).toArray⟩) ∧ w' = w := Any.strconv_Itoa_small Tryd.lays171 i hi w
end Go.Proofs
