/-
What is proved: the library's sort of strings in this dump is the one that the shelf speaks of; no condition (written by the tool lay-plain of the kit).
-/
import Derived.Shelf.Sort.Plain
import Derived.Test.YtijlanhhelichaaDoorProg
namespace Go.Proofs
open Go.Shelf
def Tryd.sortS_ren : Go.Shelf.Ren := ⟨fun | 192 => 68 | 190 => 88 | 125 => 66 | 258 => 104 | 128 => 85 | 129 => 86 | 302 => 116 | 303 => 117 | 304 => 118 | 305 => 119 | 306 => 120 | 307 => 121 | 308 => 122 | 309 => 123 | 310 => 124 | 333 => 128 | 329 => 100 | 330 => 101 | 334 => 129 | 335 => 130 | 336 => 131 | 344 => 133 | n => n, fun | 31 => 86 | 0 => 0 | 9 => 9 | 3 => 3 | 46 => 78 | 51 => 122 | 53 => 124 | 4 => 4 | 183 => 115 | 182 => 114 | 131 => 119 | 5 => 5 | 218 => 136 | 222 => 140 | 228 => 153 | 229 => 25 | n => n, fun | n => n⟩
theorem Tryd.sortS : Go.Proofs.Lays.n192 Tryd.prog Tryd.sortS_ren := {
  mixed := by kernel_rfl
  f125 := Tryd.func66.trans (congrArg some (by kernel_rfl))
  f128 := Tryd.func85.trans (congrArg some (by kernel_rfl))
  f129 := Tryd.func86.trans (congrArg some (by kernel_rfl))
  f190 := Tryd.func88.trans (congrArg some (by kernel_rfl))
  f192 := Tryd.func68.trans (congrArg some (by kernel_rfl))
  f258 := Tryd.func104.trans (congrArg some (by kernel_rfl))
  f302 := Tryd.func116.trans (congrArg some (by kernel_rfl))
  f303 := Tryd.func117.trans (congrArg some (by kernel_rfl))
  f304 := Tryd.func118.trans (congrArg some (by kernel_rfl))
  f305 := Tryd.func119.trans (congrArg some (by kernel_rfl))
  f306 := Tryd.func120.trans (congrArg some (by kernel_rfl))
  f307 := Tryd.func121.trans (congrArg some (by kernel_rfl))
  f308 := Tryd.func122.trans (congrArg some (by kernel_rfl))
  f309 := Tryd.func123.trans (congrArg some (by kernel_rfl))
  f310 := Tryd.func124.trans (congrArg some (by kernel_rfl))
  f329 := Tryd.func100.trans (congrArg some (by kernel_rfl))
  f330 := Tryd.func101.trans (congrArg some (by kernel_rfl))
  f333 := Tryd.func128.trans (congrArg some (by kernel_rfl))
  f334 := Tryd.func129.trans (congrArg some (by kernel_rfl))
  f335 := Tryd.func130.trans (congrArg some (by kernel_rfl))
  f336 := Tryd.func131.trans (congrArg some (by kernel_rfl))
  f344 := Tryd.func133.trans (congrArg some (by kernel_rfl))
  t0 := Tryd.underlying0
  a0 := Tryd.isAgg0
  z0 := Tryd.sizeOf0
  v0 := Tryd.zeroValue0
  t3 := Tryd.underlying3
  a3 := Tryd.isAgg3
  z3 := Tryd.sizeOf3
  v3 := Tryd.zeroValue3
  t4 := Tryd.underlying4
  a4 := Tryd.isAgg4
  z4 := Tryd.sizeOf4
  v4 := Tryd.zeroValue4
  t5 := Tryd.underlying5
  a5 := Tryd.isAgg5
  z5 := Tryd.sizeOf5
  v5 := Tryd.zeroValue5
  t9 := Tryd.underlying9
  a9 := Tryd.isAgg9
  z9 := Tryd.sizeOf9
  v9 := Tryd.zeroValue9
  t31 := Tryd.underlying86
  a31 := Tryd.isAgg86
  z31 := Tryd.sizeOf86
  v31 := Tryd.zeroValue86
  t46 := Tryd.underlying78
  a46 := Tryd.isAgg78
  z46 := Tryd.sizeOf78
  v46 := Tryd.zeroValue78
  t51 := Tryd.underlying122
  a51 := Tryd.isAgg122
  z51 := Tryd.sizeOf122
  v51 := Tryd.zeroValue122
  t53 := Tryd.underlying124
  a53 := Tryd.isAgg124
  z53 := Tryd.sizeOf124
  v53 := Tryd.zeroValue124
  t131 := Tryd.underlying119
  a131 := Tryd.isAgg119
  z131 := Tryd.sizeOf119
  v131 := Tryd.zeroValue119
  t182 := Tryd.underlying114
  a182 := Tryd.isAgg114
  z182 := Tryd.sizeOf114
  v182 := Tryd.zeroValue114
  t183 := Tryd.underlying115
  a183 := Tryd.isAgg115
  z183 := Tryd.sizeOf115
  v183 := Tryd.zeroValue115
  t218 := Tryd.underlying136
  a218 := Tryd.isAgg136
  z218 := Tryd.sizeOf136
  v218 := Tryd.zeroValue136
  t222 := Tryd.underlying140
  a222 := Tryd.isAgg140
  z222 := Tryd.sizeOf140
  v222 := Tryd.zeroValue140
  t228 := Tryd.underlying153
  a228 := Tryd.isAgg153
  z228 := Tryd.sizeOf153
  v228 := Tryd.zeroValue153
  t229 := Tryd.underlying25
  a229 := Tryd.isAgg25
  z229 := Tryd.sizeOf25
  v229 := Tryd.zeroValue25 }
end Go.Proofs
