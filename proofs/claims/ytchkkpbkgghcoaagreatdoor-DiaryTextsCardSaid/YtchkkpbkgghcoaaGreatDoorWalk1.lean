/- The code computes what the plain functions say, part 1: no condition. -/
import Derived.Test.YtchkkpbkgghcoaaGreatDoorPlain1
import Derived.Test.YtchkkpbkgghcoaaGreatDoorProg
import Derived.ChangeVars
import Derived.Ground.NamesProg
import Derived.Handed
import Derived.Lay
import Derived.Lib.AppendZerosOnto
import Derived.Lib.LaidU8
import Derived.LoopIn
import Derived.LoopNIn
import Derived.OwnWalkIn
import Derived.RangeFuncBound
import Derived.RangeFuncCalls
import Derived.RangeFuncLeaves
import Derived.RangeFuncNested
import Derived.Shelf.Abstract
import Derived.Shelf.Lays
import Derived.Shelf.LaysM
import Derived.Shelf.RegionOpen
import Derived.Shelf.Slices.In.SortAlone
import Derived.Shelf.Slices.In.SortNone
import Derived.Shelf.Spec.SlicesInsert
import Derived.Shelf.Strconv.AtoiAll
import Derived.Shelf.Strconv.Itoa3
import Derived.Shelf.Strings.OnBuilder
import Derived.Shelf.Strings.Split
import Derived.Shelf.Vars
import Derived.SizedLaws
import Derived.Sort.EncStr
import Derived.Sort.EveryDepth
import Derived.Sort.Grow
import Derived.TacticsInMore
import Derived.WalkKit
namespace Go.Proofs.YtchkkpbkgghcoaaGreatDoor.As
open Go Go.Proofs
set_option maxRecDepth 4000
section
open Go Go.Proofs Go.Shelf
def txItoaR : Go.Shelf.Ren := ⟨fun | 171 => 38 | 243 => 90 | 246 => 134 | 283 => 178 | 284 => 179 | 285 => 180 | 286 => 181 | 129 => 212 | 317 => 231 | 318 => 232 | 319 => 233 | 320 => 234 | 337 => 258 | 338 => 259 | n => n, fun | 3 => 3 | 9 => 9 | 2 => 2 | 4 => 4 | 171 => 242 | 0 => 0 | 53 => 243 | 37 => 114 | 5 => 5 | 173 => 246 | 212 => 287 | 51 => 272 | 20 => 20 | 213 => 288 | 46 => 146 | 232 => 328 | 233 => 329 | n => n, fun | 17 => 2 | 18 => 7 | 19 => 8 | n => n⟩
theorem txItoa : Go.Proofs.LaysM.n171 Tryz.prog txItoaR := {
  mixed := by kernel_rfl
  f129 := Tryz.func212.trans (congrArg some (by kernel_rfl))
  f171 := Tryz.func38.trans (congrArg some (by kernel_rfl))
  f243 := Tryz.func90.trans (congrArg some (by kernel_rfl))
  f246 := Tryz.func134.trans (congrArg some (by kernel_rfl))
  f283 := Tryz.func178.trans (congrArg some (by kernel_rfl))
  f284 := Tryz.func179.trans (congrArg some (by kernel_rfl))
  f285 := Tryz.func180.trans (congrArg some (by kernel_rfl))
  f286 := Tryz.func181.trans (congrArg some (by kernel_rfl))
  f317 := Tryz.func231.trans (congrArg some (by kernel_rfl))
  f318 := Tryz.func232.trans (congrArg some (by kernel_rfl))
  f319 := Tryz.func233.trans (congrArg some (by kernel_rfl))
  f320 := Tryz.func234.trans (congrArg some (by kernel_rfl))
  f337 := Tryz.func258.trans (congrArg some (by kernel_rfl))
  f338 := Tryz.func259.trans (congrArg some (by kernel_rfl))
  t0 := Tryz.underlying0
  a0 := Tryz.isAgg0
  z0 := Tryz.sizeOf0
  v0 := Tryz.zeroValue0
  t2 := Tryz.underlying2
  a2 := Tryz.isAgg2
  z2 := Tryz.sizeOf2
  v2 := Tryz.zeroValue2
  t3 := Tryz.underlying3
  a3 := Tryz.isAgg3
  z3 := Tryz.sizeOf3
  v3 := Tryz.zeroValue3
  t4 := Tryz.underlying4
  a4 := Tryz.isAgg4
  z4 := Tryz.sizeOf4
  v4 := Tryz.zeroValue4
  t5 := Tryz.underlying5
  a5 := Tryz.isAgg5
  z5 := Tryz.sizeOf5
  v5 := Tryz.zeroValue5
  t9 := Tryz.underlying9
  a9 := Tryz.isAgg9
  z9 := Tryz.sizeOf9
  v9 := Tryz.zeroValue9
  t20 := Tryz.underlying20
  a20 := Tryz.isAgg20
  z20 := Tryz.sizeOf20
  v20 := Tryz.zeroValue20
  t37 := Tryz.underlying114
  a37 := Tryz.isAgg114
  z37 := Tryz.sizeOf114
  v37 := Tryz.zeroValue114
  t46 := Tryz.underlying146
  a46 := Tryz.isAgg146
  z46 := Tryz.sizeOf146
  v46 := Tryz.zeroValue146
  t51 := Tryz.underlying272
  a51 := Tryz.isAgg272
  z51 := Tryz.sizeOf272
  v51 := Tryz.zeroValue272
  t53 := Tryz.underlying243
  a53 := Tryz.isAgg243
  z53 := Tryz.sizeOf243
  v53 := Tryz.zeroValue243
  t171 := Tryz.underlying242
  a171 := Tryz.isAgg242
  z171 := Tryz.sizeOf242
  v171 := Tryz.zeroValue242
  t173 := Tryz.underlying246
  a173 := Tryz.isAgg246
  z173 := Tryz.sizeOf246
  v173 := Tryz.zeroValue246
  t212 := Tryz.underlying287
  a212 := Tryz.isAgg287
  z212 := Tryz.sizeOf287
  v212 := Tryz.zeroValue287
  t213 := Tryz.underlying288
  a213 := Tryz.isAgg288
  z213 := Tryz.sizeOf288
  t232 := Tryz.underlying328
  a232 := Tryz.isAgg328
  z232 := Tryz.sizeOf328
  v232 := Tryz.zeroValue328
  t233 := Tryz.underlying329
  a233 := Tryz.isAgg329
  z233 := Tryz.sizeOf329
  v233 := Tryz.zeroValue329
  g17 := by kernel_rfl
  g18 := by kernel_rfl
  g19 := by kernel_rfl
  i0 := by kernel_rfl
  i2 := by kernel_rfl
  i3 := by kernel_rfl
  i4 := by kernel_rfl
  i5 := by kernel_rfl
  i9 := by kernel_rfl
  i20 := by kernel_rfl
  i37 := by kernel_rfl
  i46 := by kernel_rfl
  i51 := by kernel_rfl
  i53 := by kernel_rfl
  i171 := by kernel_rfl
  i173 := by kernel_rfl
  i212 := by kernel_rfl
  i232 := by kernel_rfl
  i233 := by kernel_rfl
  m17 := by kernel_rfl
  m18 := by kernel_rfl
  m19 := by kernel_rfl }
def txAtoiR : Go.Shelf.Ren := ⟨fun | 172 => 92 | 244 => 138 | 245 => 139 | 247 => 186 | 279 => 187 | 280 => 188 | 281 => 189 | 282 => 190 | 287 => 239 | 316 => 240 | 171 => 38 | 205 => 241 | 321 => 261 | 322 => 262 | 243 => 90 | 246 => 134 | 283 => 178 | 284 => 179 | 285 => 180 | 286 => 181 | 129 => 212 | 317 => 231 | 318 => 232 | 319 => 233 | 320 => 234 | 337 => 258 | 338 => 259 | n => n, fun | 9 => 9 | 3 => 3 | 75 => 118 | 76 => 119 | 4 => 4 | 5 => 5 | 167 => 250 | 37 => 114 | 0 => 0 | 85 => 251 | 2 => 2 | 168 => 253 | 53 => 243 | 175 => 289 | 46 => 146 | 210 => 293 | 127 => 187 | 145 => 321 | 143 => 319 | 21 => 21 | 171 => 242 | 173 => 246 | 212 => 287 | 51 => 272 | 20 => 20 | 213 => 288 | 232 => 328 | 233 => 329 | 80 => 123 | n => n, fun | 15 => 3 | 16 => 4 | 17 => 2 | 18 => 7 | 19 => 8 | n => n⟩
theorem txAtoi : Go.Proofs.LaysC.n172 Tryz.prog txAtoiR := {
  mixed := by kernel_rfl
  f129 := Tryz.func212.trans (congrArg some (by kernel_rfl))
  f171 := Tryz.func38.trans (congrArg some (by kernel_rfl))
  f172 := Tryz.func92.trans (congrArg some (by kernel_rfl))
  f205 := Tryz.func241.trans (congrArg some (by kernel_rfl))
  f243 := Tryz.func90.trans (congrArg some (by kernel_rfl))
  f244 := Tryz.func138.trans (congrArg some (by kernel_rfl))
  f245 := Tryz.func139.trans (congrArg some (by kernel_rfl))
  f246 := Tryz.func134.trans (congrArg some (by kernel_rfl))
  f247 := Tryz.func186.trans (congrArg some (by kernel_rfl))
  f279 := Tryz.func187.trans (congrArg some (by kernel_rfl))
  f280 := Tryz.func188.trans (congrArg some (by kernel_rfl))
  f281 := Tryz.func189.trans (congrArg some (by kernel_rfl))
  f282 := Tryz.func190.trans (congrArg some (by kernel_rfl))
  f283 := Tryz.func178.trans (congrArg some (by kernel_rfl))
  f284 := Tryz.func179.trans (congrArg some (by kernel_rfl))
  f285 := Tryz.func180.trans (congrArg some (by kernel_rfl))
  f286 := Tryz.func181.trans (congrArg some (by kernel_rfl))
  f287 := Tryz.func239.trans (congrArg some (by kernel_rfl))
  f316 := Tryz.func240.trans (congrArg some (by kernel_rfl))
  f317 := Tryz.func231.trans (congrArg some (by kernel_rfl))
  f318 := Tryz.func232.trans (congrArg some (by kernel_rfl))
  f319 := Tryz.func233.trans (congrArg some (by kernel_rfl))
  f320 := Tryz.func234.trans (congrArg some (by kernel_rfl))
  f321 := Tryz.func261.trans (congrArg some (by kernel_rfl))
  f322 := Tryz.func262.trans (congrArg some (by kernel_rfl))
  f337 := Tryz.func258.trans (congrArg some (by kernel_rfl))
  f338 := Tryz.func259.trans (congrArg some (by kernel_rfl))
  t0 := Tryz.underlying0
  a0 := Tryz.isAgg0
  z0 := Tryz.sizeOf0
  v0 := Tryz.zeroValue0
  t2 := Tryz.underlying2
  a2 := Tryz.isAgg2
  z2 := Tryz.sizeOf2
  v2 := Tryz.zeroValue2
  t3 := Tryz.underlying3
  a3 := Tryz.isAgg3
  z3 := Tryz.sizeOf3
  v3 := Tryz.zeroValue3
  t4 := Tryz.underlying4
  a4 := Tryz.isAgg4
  z4 := Tryz.sizeOf4
  v4 := Tryz.zeroValue4
  t5 := Tryz.underlying5
  a5 := Tryz.isAgg5
  z5 := Tryz.sizeOf5
  v5 := Tryz.zeroValue5
  t9 := Tryz.underlying9
  a9 := Tryz.isAgg9
  z9 := Tryz.sizeOf9
  v9 := Tryz.zeroValue9
  t20 := Tryz.underlying20
  a20 := Tryz.isAgg20
  z20 := Tryz.sizeOf20
  v20 := Tryz.zeroValue20
  t21 := Tryz.underlying21
  a21 := Tryz.isAgg21
  z21 := Tryz.sizeOf21
  v21 := Tryz.zeroValue21
  t37 := Tryz.underlying114
  a37 := Tryz.isAgg114
  z37 := Tryz.sizeOf114
  v37 := Tryz.zeroValue114
  t46 := Tryz.underlying146
  a46 := Tryz.isAgg146
  z46 := Tryz.sizeOf146
  v46 := Tryz.zeroValue146
  t51 := Tryz.underlying272
  a51 := Tryz.isAgg272
  z51 := Tryz.sizeOf272
  v51 := Tryz.zeroValue272
  t53 := Tryz.underlying243
  a53 := Tryz.isAgg243
  z53 := Tryz.sizeOf243
  v53 := Tryz.zeroValue243
  t75 := Tryz.underlying118
  a75 := Tryz.isAgg118
  z75 := Tryz.sizeOf118
  v75 := Tryz.zeroValue118
  t76 := Tryz.underlying119
  a76 := Tryz.isAgg119
  z76 := Tryz.sizeOf119
  v76 := Tryz.zeroValue119
  t85 := Tryz.underlying251
  a85 := Tryz.isAgg251
  z85 := Tryz.sizeOf251
  v85 := Tryz.zeroValue251
  t127 := Tryz.underlying187
  a127 := Tryz.isAgg187
  z127 := Tryz.sizeOf187
  v127 := Tryz.zeroValue187
  t143 := Tryz.underlying319
  a143 := Tryz.isAgg319
  z143 := Tryz.sizeOf319
  v143 := Tryz.zeroValue319
  t145 := Tryz.underlying321
  a145 := Tryz.isAgg321
  z145 := Tryz.sizeOf321
  v145 := Tryz.zeroValue321
  t167 := Tryz.underlying250
  a167 := Tryz.isAgg250
  z167 := Tryz.sizeOf250
  v167 := Tryz.zeroValue250
  t168 := Tryz.underlying253
  a168 := Tryz.isAgg253
  z168 := Tryz.sizeOf253
  v168 := Tryz.zeroValue253
  t171 := Tryz.underlying242
  a171 := Tryz.isAgg242
  z171 := Tryz.sizeOf242
  v171 := Tryz.zeroValue242
  t173 := Tryz.underlying246
  a173 := Tryz.isAgg246
  z173 := Tryz.sizeOf246
  v173 := Tryz.zeroValue246
  t175 := Tryz.underlying289
  a175 := Tryz.isAgg289
  z175 := Tryz.sizeOf289
  v175 := Tryz.zeroValue289
  t210 := Tryz.underlying293
  a210 := Tryz.isAgg293
  z210 := Tryz.sizeOf293
  v210 := Tryz.zeroValue293
  t212 := Tryz.underlying287
  a212 := Tryz.isAgg287
  z212 := Tryz.sizeOf287
  v212 := Tryz.zeroValue287
  t213 := Tryz.underlying288
  a213 := Tryz.isAgg288
  z213 := Tryz.sizeOf288
  t232 := Tryz.underlying328
  a232 := Tryz.isAgg328
  z232 := Tryz.sizeOf328
  v232 := Tryz.zeroValue328
  t233 := Tryz.underlying329
  a233 := Tryz.isAgg329
  z233 := Tryz.sizeOf329
  v233 := Tryz.zeroValue329
  g15 := by kernel_rfl
  g16 := by kernel_rfl
  g17 := by kernel_rfl
  g18 := by kernel_rfl
  g19 := by kernel_rfl
  t80 := Tryz.underlying123
  a80 := Tryz.isAgg123
  z80 := Tryz.sizeOf123
  v80 := Tryz.zeroValue123
  i0 := by kernel_rfl
  i2 := by kernel_rfl
  i3 := by kernel_rfl
  i4 := by kernel_rfl
  i5 := by kernel_rfl
  i9 := by kernel_rfl
  i20 := by kernel_rfl
  i21 := by kernel_rfl
  i37 := by kernel_rfl
  i46 := by kernel_rfl
  i51 := by kernel_rfl
  i53 := by kernel_rfl
  i75 := by kernel_rfl
  i76 := by kernel_rfl
  i80 := by kernel_rfl
  i85 := by kernel_rfl
  i127 := by kernel_rfl
  i143 := by kernel_rfl
  i145 := by kernel_rfl
  i167 := by kernel_rfl
  i168 := by kernel_rfl
  i171 := by kernel_rfl
  i173 := by kernel_rfl
  i175 := by kernel_rfl
  i210 := by kernel_rfl
  i212 := by kernel_rfl
  i232 := by kernel_rfl
  i233 := by kernel_rfl
  m15 := by kernel_rfl
  m16 := by kernel_rfl
  m17 := by kernel_rfl
  m18 := by kernel_rfl
  m19 := by kernel_rfl
  c0 := by kernel_rfl
  c2 := by kernel_rfl
  c3 := by kernel_rfl
  c4 := by kernel_rfl
  c5 := by kernel_rfl
  c9 := by kernel_rfl
  c20 := by kernel_rfl
  c21 := by kernel_rfl
  c37 := by kernel_rfl
  c46 := by kernel_rfl
  c51 := by kernel_rfl
  c53 := by kernel_rfl
  c75 := by kernel_rfl
  c76 := by kernel_rfl
  c80 := by kernel_rfl
  c85 := by kernel_rfl
  c127 := by kernel_rfl
  c143 := by kernel_rfl
  c145 := by kernel_rfl
  c167 := by kernel_rfl
  c168 := by kernel_rfl
  c171 := by kernel_rfl
  c173 := by kernel_rfl
  c175 := by kernel_rfl
  c210 := by kernel_rfl
  c212 := by kernel_rfl
  c213 := by kernel_rfl
  c232 := by kernel_rfl
  c233 := by kernel_rfl }
def txSplitR : Go.Shelf.Ren := ⟨fun | 146 => 39 | 221 => 91 | 268 => 135 | 138 => 136 | 143 => 137 | 195 => 182 | 197 => 183 | 218 => 184 | 219 => 185 | 260 => 235 | 217 => 167 | 225 => 236 | 224 => 237 | 267 => 238 | 266 => 220 | 314 => 260 | n => n, fun | 9 => 9 | 31 => 59 | 3 => 3 | 4 => 4 | 0 => 0 | 105 => 248 | 21 => 21 | 5 => 5 | 46 => 146 | 119 => 313 | 139 => 316 | 138 => 315 | 146 => 306 | 51 => 272 | n => n, fun | 1 => 1 | 3 => 5 | 4 => 6 | n => n⟩
theorem txSplit : Go.Proofs.Lays.n146 Tryz.prog txSplitR := {
  mixed := by kernel_rfl
  f138 := Tryz.func136.trans (congrArg some (by kernel_rfl))
  f143 := Tryz.func137.trans (congrArg some (by kernel_rfl))
  f146 := Tryz.func39.trans (congrArg some (by kernel_rfl))
  f195 := Tryz.func182.trans (congrArg some (by kernel_rfl))
  f197 := Tryz.func183.trans (congrArg some (by kernel_rfl))
  f217 := Tryz.func167.trans (congrArg some (by kernel_rfl))
  f218 := Tryz.func184.trans (congrArg some (by kernel_rfl))
  f219 := Tryz.func185.trans (congrArg some (by kernel_rfl))
  f221 := Tryz.func91.trans (congrArg some (by kernel_rfl))
  f224 := Tryz.func237.trans (congrArg some (by kernel_rfl))
  f225 := Tryz.func236.trans (congrArg some (by kernel_rfl))
  f260 := Tryz.func235.trans (congrArg some (by kernel_rfl))
  f266 := Tryz.func220.trans (congrArg some (by kernel_rfl))
  f267 := Tryz.func238.trans (congrArg some (by kernel_rfl))
  f268 := Tryz.func135.trans (congrArg some (by kernel_rfl))
  f314 := Tryz.func260.trans (congrArg some (by kernel_rfl))
  t0 := Tryz.underlying0
  a0 := Tryz.isAgg0
  z0 := Tryz.sizeOf0
  v0 := Tryz.zeroValue0
  t3 := Tryz.underlying3
  a3 := Tryz.isAgg3
  z3 := Tryz.sizeOf3
  v3 := Tryz.zeroValue3
  t4 := Tryz.underlying4
  a4 := Tryz.isAgg4
  z4 := Tryz.sizeOf4
  v4 := Tryz.zeroValue4
  t5 := Tryz.underlying5
  a5 := Tryz.isAgg5
  z5 := Tryz.sizeOf5
  v5 := Tryz.zeroValue5
  t9 := Tryz.underlying9
  a9 := Tryz.isAgg9
  z9 := Tryz.sizeOf9
  v9 := Tryz.zeroValue9
  t21 := Tryz.underlying21
  a21 := Tryz.isAgg21
  z21 := Tryz.sizeOf21
  v21 := Tryz.zeroValue21
  t31 := Tryz.underlying59
  a31 := Tryz.isAgg59
  z31 := Tryz.sizeOf59
  v31 := Tryz.zeroValue59
  t46 := Tryz.underlying146
  a46 := Tryz.isAgg146
  z46 := Tryz.sizeOf146
  v46 := Tryz.zeroValue146
  t51 := Tryz.underlying272
  a51 := Tryz.isAgg272
  z51 := Tryz.sizeOf272
  v51 := Tryz.zeroValue272
  t105 := Tryz.underlying248
  a105 := Tryz.isAgg248
  z105 := Tryz.sizeOf248
  v105 := Tryz.zeroValue248
  t119 := Tryz.underlying313
  a119 := Tryz.isAgg313
  z119 := Tryz.sizeOf313
  t138 := Tryz.underlying315
  a138 := Tryz.isAgg315
  z138 := Tryz.sizeOf315
  v138 := Tryz.zeroValue315
  t139 := Tryz.underlying316
  a139 := Tryz.isAgg316
  z139 := Tryz.sizeOf316
  v139 := Tryz.zeroValue316
  t146 := Tryz.underlying306
  a146 := Tryz.isAgg306
  z146 := Tryz.sizeOf306
  v146 := Tryz.zeroValue306
  g1 := by kernel_rfl
  g3 := by kernel_rfl
  g4 := by kernel_rfl }
def txJoinR : Go.Shelf.Ren := ⟨fun | 156 => 37 | 165 => 89 | 166 => 58 | 169 => 60 | 240 => 110 | 241 => 133 | 276 => 165 | 277 => 177 | n => n, fun | 31 => 59 | 9 => 9 | 3 => 3 | 4 => 4 | 0 => 0 | 20 => 20 | 72 => 116 | 76 => 119 | 70 => 113 | 37 => 114 | 75 => 118 | 127 => 187 | 164 => 230 | 5 => 5 | 80 => 123 | n => n, fun | n => n⟩
theorem txJoin : Go.Proofs.Lays.n156 Tryz.prog txJoinR := {
  mixed := by kernel_rfl
  f156 := Tryz.func37.trans (congrArg some (by kernel_rfl))
  f165 := Tryz.func89.trans (congrArg some (by kernel_rfl))
  f166 := Tryz.func58.trans (congrArg some (by kernel_rfl))
  f169 := Tryz.func60.trans (congrArg some (by kernel_rfl))
  f240 := Tryz.func110.trans (congrArg some (by kernel_rfl))
  f241 := Tryz.func133.trans (congrArg some (by kernel_rfl))
  f276 := Tryz.func165.trans (congrArg some (by kernel_rfl))
  f277 := Tryz.func177.trans (congrArg some (by kernel_rfl))
  t0 := Tryz.underlying0
  a0 := Tryz.isAgg0
  z0 := Tryz.sizeOf0
  v0 := Tryz.zeroValue0
  t3 := Tryz.underlying3
  a3 := Tryz.isAgg3
  z3 := Tryz.sizeOf3
  v3 := Tryz.zeroValue3
  t4 := Tryz.underlying4
  a4 := Tryz.isAgg4
  z4 := Tryz.sizeOf4
  v4 := Tryz.zeroValue4
  t9 := Tryz.underlying9
  a9 := Tryz.isAgg9
  z9 := Tryz.sizeOf9
  v9 := Tryz.zeroValue9
  t20 := Tryz.underlying20
  a20 := Tryz.isAgg20
  z20 := Tryz.sizeOf20
  v20 := Tryz.zeroValue20
  t31 := Tryz.underlying59
  a31 := Tryz.isAgg59
  z31 := Tryz.sizeOf59
  v31 := Tryz.zeroValue59
  t37 := Tryz.underlying114
  a37 := Tryz.isAgg114
  z37 := Tryz.sizeOf114
  v37 := Tryz.zeroValue114
  t70 := Tryz.underlying113
  a70 := Tryz.isAgg113
  z70 := Tryz.sizeOf113
  v70 := Tryz.zeroValue113
  t72 := Tryz.underlying116
  a72 := Tryz.isAgg116
  z72 := Tryz.sizeOf116
  v72 := Tryz.zeroValue116
  t75 := Tryz.underlying118
  a75 := Tryz.isAgg118
  z75 := Tryz.sizeOf118
  v75 := Tryz.zeroValue118
  t76 := Tryz.underlying119
  a76 := Tryz.isAgg119
  z76 := Tryz.sizeOf119
  v76 := Tryz.zeroValue119
  t127 := Tryz.underlying187
  a127 := Tryz.isAgg187
  z127 := Tryz.sizeOf187
  v127 := Tryz.zeroValue187
  t164 := Tryz.underlying230
  a164 := Tryz.isAgg230
  z164 := Tryz.sizeOf230
  v164 := Tryz.zeroValue230 }
theorem txExtra : Builder.Extra Tryz.prog txJoinR := {
  sizeBuilder := by kernel_rfl
  liesBuilder := by kernel_rfl
  t5 := Tryz.underlying5
  a5 := Tryz.isAgg5
  z5 := Tryz.sizeOf5
  v5 := Tryz.zeroValue5
  infoByte := by kernel_rfl
  cellsByte := by kernel_rfl
  sizeByte := by kernel_rfl
  neB5 := by decide }
theorem tab_of {P : Program} {w : World} {name : String} {g : Nat} {k : IntKind} {zs : List Int} {cs : Array Value} {T : TypeId} {z : Nat × Nat} (hn : P.globalNamed name = some g) (h : w.heap[g]? = some (.cells cs T z)) (h2 : cs = (zs.map fun z => Value.int k z).toArray) : Lib.TabIs P w name k zs := by
  unfold Lib.TabIs World.var?
  rw [hn, Option.bind_some, h, h2]
theorem cell_of {w : World} {g j : Nat} {cs : Array Value} {T : TypeId} {z : Nat × Nat} (h : w.heap[g]? = some (.cells cs T z)) : w.cell? ⟨g, j, none⟩ = cs[j]? := by
  simp [World.cell?, h]
theorem below_grow (w : World) (n : Nat) (os : Array Obj) : RowKit.Below w.heap.size w (Sort.grow (w.drewN n) os) :=
  ⟨rfl, rfl, rfl, by simp [Sort.grow], fun b hb => by simp only [Sort.grow, World.drewN]; rw [Array.getElem?_append_left (by simpa using hb)]⟩
theorem itoa_call {n : Int} (h : inI n = true) : FnL Tryz.prog 38 [vi n] [] (vt (itoaL n)) [] := by
  have hn : -9223372036854775808 ≤ n ∧ n ≤ 9223372036854775807 := by simpa [inI] using h
  refine FnL_lib Tryz.call38 (vs := [.int .i64 n]) fun w F hg => ?_
  obtain ⟨_, cs, T, z, h1, h2⟩ := hg.2 _ (List.Mem.head _)
  refine (Any.strconv_Itoa txItoa n hn.1 hn.2 w (tab_of (by kernel_rfl) h1 (h2.trans rfl))).mono ?_
  rintro e w' ⟨rfl, k, os, rfl⟩
  exact ⟨_, rfl, below_grow w k os, fun β => .fr (.p rfl)⟩
theorem vrep_pair {w : World} {F : Nat → Prop} {β : Beta} {a b : Value} {x y : V} (h : VRep w F β a x) (g : VRep w F β b y) : VRep w F β (.tuple #[a, b]) (.tup [x, y]) :=
  .tup rfl fun j hj => by
    match j, hj with
    | 0, _ => exact h
    | 1, _ => exact g
theorem atoi_call {s : Str} (h : Nat.ble s.length 281474976710656 = true) : FnL Tryz.prog 92 [vt s] [] (.tup [vi (atoiL s).1, errV 253 (atoiL s).2]) [] := by
  have hl := Nat.le_of_ble_eq_true h
  refine FnL_lib Tryz.call92 (vs := [.string ⟨⟨s⟩⟩]) fun w F hg => ?_
  obtain ⟨_, cs, T, z, h1, ev, h2, h3⟩ := hg.2 _ (List.Mem.tail _ (List.Mem.tail _ (List.Mem.head _)))
  obtain ⟨_, cs', T', z', h1', ev', h2', h3'⟩ := hg.2 _ (List.Mem.tail _ (List.Mem.tail _ (List.Mem.tail _ (List.Mem.head _))))
  cases hs : Lib.atoiAll s with
  | ok v =>
    refine (Any.strconv_Atoi_ok txAtoi ⟨⟨s⟩⟩ (by show s.length ≤ _; omega) v hs w).mono ?_
    rintro e w' ⟨rfl, hw⟩
    refine ⟨_, rfl, ?_, fun β => ?_⟩
    · rcases hw with rfl | ⟨t, rfl⟩
      · exact RowKit.Below.refl _ _
      · exact ⟨by simp [Lib.bytesWorld, World.freeze, World.alloc, World.drew, -World.alloc_eq, -World.drew_eq], by simp [Lib.bytesWorld, World.freeze, World.alloc, World.drew, -World.alloc_eq, -World.drew_eq], by simp [Lib.bytesWorld, World.freeze, World.alloc, World.drew, -World.alloc_eq, -World.drew_eq], by rw [Lib.bytesWorld_size]; omega, fun b hb => Lib.bytesWorld_at_old _ _ _ b hb⟩
    · rw [atoiL, hs]
      exact vrep_pair (.fr (.p rfl)) (.fr (.p rfl))
  | range =>
    refine (Any.strconv_Atoi_range txAtoi ⟨⟨s⟩⟩ (by show s.length ≤ _; omega) hs ev' w ((cell_of h1').trans h2') h3').mono ?_
    rintro e w' ⟨N, rfl, _, _, hb⟩
    refine ⟨_, rfl, hb, fun β => ?_⟩
    rw [atoiL, hs]
    exact vrep_pair (.fr (.p rfl)) (.iface .undef)
  | _ =>
    refine (Any.strconv_Atoi_syntax txAtoi ⟨⟨s⟩⟩ (by show s.length ≤ _; omega) hs ev w ((cell_of h1).trans h2) h3).mono ?_
    rintro e w' ⟨N, rfl, _, _, hb⟩
    refine ⟨_, rfl, hb, fun β => ?_⟩
    rw [atoiL, hs]
    exact vrep_pair (.fr (.p rfl)) (.iface .undef)
theorem split_call {s : Str} {c : UInt8} (h : Nat.blt s.length 4294967281 = true) : FnL Tryz.prog 39 [vt s, vt [c]] [] (eS 1 vt (splitL c s)) [] := by
  have hl : s.length < 4294967281 := Nat.le_of_ble_eq_true h
  refine FnL_lib Tryz.call39 (vs := [.string ⟨⟨s⟩⟩, .string ⟨⟨[c]⟩⟩]) fun w F hg => ?_
  obtain ⟨_, cs, T, z, h1, m, h2⟩ := hg.2 _ (List.Mem.tail _ (List.Mem.head _))
  refine (Any.strings_Split txSplit (by kernel_rfl) ⟨⟨s⟩⟩ ⟨⟨[c]⟩⟩ m w hl ((cell_of h1).trans h2) (Nat.le_refl 1)).mono ?_
  rintro e w' ⟨rfl, rfl⟩
  have hk := Lib.splitB_all ⟨⟨[c]⟩⟩ (Nat.le_refl 1) 0 _ ⟨⟨s⟩⟩ rfl
  have hlen : (splitL c s).length = Lib.countB ⟨⟨s⟩⟩ ⟨⟨[c]⟩⟩ + 1 := by
    have := congrArg List.length (splitB_one c s)
    simp only [List.length_map] at this
    rw [← this, hk]
  refine ⟨_, rfl, ⟨rfl, rfl, rfl, by simp, fun b hb => heap_alloc_old w _ hb⟩, fun β => .fr ?_⟩
  rw [← hlen]
  exact frep_strings (.inr ⟨Nat.le_refl _, by simp⟩) (Nat.le_refl _) (by rw [splitB_one]; exact heap_alloc_new w _)
theorem join_cells {w : World} {b off cap : Nat} {l : List Str} {sep : Str} (hb : b < w.heap.size) (hcap : l.length ≤ cap) (hc : ∀ j s, l[j]? = some s → w.cell? ⟨b, off + j, none⟩ = some (.string ⟨⟨s⟩⟩))
    (h1 : l.length ≤ 140737488355328) (h2 : (joinL l sep).length ≤ 140737488355328) :
    Calls Tryz.prog 37 #[.slice (some ⟨b, off, none⟩) l.length cap, .string ⟨⟨sep⟩⟩] w fun e w' => e = .returned (.string ⟨⟨joinL l sep⟩⟩) ∧ RowKit.Below w.heap.size w w' := by
  have hm : ((l.map fun s => (⟨⟨s⟩⟩ : ByteArray)).map fun x => x.data.toList) = l := by rw [List.map_map]; exact List.map_id _
  have := Any.strings_Join txJoin txExtra b off cap (l.map fun s => ⟨⟨s⟩⟩) ⟨⟨sep⟩⟩ w (fun j x hx => by
    rw [List.getElem?_map, Option.map_eq_some_iff] at hx
    obtain ⟨s, h, rfl⟩ := hx
    exact hc j s h) hb (by simpa using h1) (by simpa using hcap) (by rw [hm]; exact h2)
  rw [hm, List.length_map] at this
  exact this
theorem join_callO {l : List Str} {sep : Str} (h1 : Nat.ble l.length 140737488355328 = true) (h2 : Nat.ble (joinL l sep).length 140737488355328 = true) : FnL Tryz.prog 37 [.own 0 0 l.length, vt sep] [some (.row 1 (List.map vt l))] (vt (joinL l sep)) [some (.row 1 (List.map vt l))] := by
  have h1 := Nat.le_of_ble_eq_true h1
  have h2 := Nat.le_of_ble_eq_true h2
  refine ⟨Tryz.call37, Nat.le_refl _, fun j hj => ?_, fun w F β args hr hc => ?_⟩
  · have : j = 0 := by simpa using hj
    subst this
    simp [oget]
  obtain ⟨hs, hv⟩ := hc
  obtain ⟨v, u, rfl⟩ : ∃ v u, args = #[v, u] := by
    have : args.toList.length = 2 := by simpa using hs
    match hL : args.toList, this with
    | [v, u], _ => exact ⟨v, u, Array.ext' (by simpa using hL)⟩
  have hv0 : VRep w F β v (.own 0 0 l.length) := hv 0 (by simp)
  have hv1 : VRep w F β u (vt sep) := hv 1 (by simp)
  have hu := hv1.p_inv.1
  subst hu
  have h0 : oget [some (AObj.row 1 (List.map vt l))] 0 = some (.row 1 (List.map vt l)) := rfl
  have hat : SlAt w F β 1 v (List.map vt l) := by
    have := hv0.own_at hr h0 (by simp)
    rwa [List.drop_zero, List.take_of_length_le (by simp)] at this
  obtain ⟨a, cap, rfl, hrow⟩ := hat
  rw [List.length_map]
  rcases hrow with hnil | ⟨b, p, rfl, _, _, hcell⟩
  · have : l = [] := by
      cases l with
      | nil => rfl
      | cons _ _ => cases hnil
    subst this
    refine (Any.strings_Join_none txJoin txExtra a cap ⟨⟨sep⟩⟩ w).mono ?_
    rintro e w' ⟨rfl, rfl⟩
    exact ⟨_, F, β, rfl, hr, .fr (.p rfl), Evolve.refl _ _ _ _⟩
  · by_cases hl0 : l = []
    · subst hl0
      refine (Any.strings_Join_none txJoin txExtra _ cap ⟨⟨sep⟩⟩ w).mono ?_
      rintro e w' ⟨rfl, rfl⟩
      exact ⟨_, F, β, rfl, hr, .fr (.p rfl), Evolve.refl _ _ _ _⟩
    · have hpos : 0 < l.length := List.length_pos_iff.2 hl0
      have hcs : ∀ j s, l[j]? = some s → w.cell? ⟨b, p + j, none⟩ = some (.string ⟨⟨s⟩⟩) := fun j s hj => by
        have hj' : j < l.length := by
          rcases Nat.lt_or_ge j l.length with h | h
          · exact h
          · rw [List.getElem?_eq_none h] at hj; cases hj
        obtain ⟨q, g1, g2⟩ := hcell j 0 (by simpa using hj') Nat.one_pos
        have e : nth (nth (l.map vt) j).flat 0 = vt s := by
          have : nth (l.map vt) j = vt s := by simp [nth, List.getD, hj]
          rw [this]; rfl
        rw [e] at g2
        have := g2.p_inv.1
        rw [Nat.mul_one, Nat.add_zero] at g1
        rw [g1, this]
      have hb : b < w.heap.size := by
        obtain ⟨s0, hs0⟩ : ∃ s0, l[0]? = some s0 := ⟨l[0], List.getElem?_eq_getElem hpos⟩
        exact World.block_lt_of_cell? _ _ (hcs 0 s0 hs0)
      have hcap : l.length ≤ cap := by
        rcases hv0.own_inv with ⟨_, _, _, _, _, _, g, _, e⟩ | ⟨_, _, hz, _, _⟩
        · rw [List.length_map] at e; cases e; exact g
        · omega
      refine (join_cells (sep := sep) hb hcap hcs h1 h2).mono ?_
      rintro e w' ⟨rfl, hbl⟩
      obtain ⟨r1, ev⟩ := hr.fresh hbl
      exact ⟨_, _, β, rfl, r1, .fr (.p rfl), ev⟩
end
section
open Go Go.Proofs Go.RowKit Go.Shelf
attribute [local go_sem] Oper.semAt_some
def noDefer (o : Oper) : Bool := match o.op with
  | .defer _ => false
  | _ => true
theorem wpOpsIn_inRound {F : Fence} {n : Nat} {P : Program} {ops : Array Oper} {Q : Exit → Act → World → Prop} (hro : F.round = none) (l : Nat) (hd : ∀ (i : Nat) (o : Oper), ops[i]? = some o → noDefer o = true) : ∀ (is : List Nat) (a : Act) (w : World), wpOpsIn F n P ops Q is a w → wpOpsIn (F.inRound l) n P ops Q is a w
  | [], _, _, h => h
  | i :: is, a, w, h => by
    simp only [wpOpsIn] at h ⊢
    cases ho : ops[i]? with
    | none => rw [ho] at h; exact wpOpsIn_inRound hro l hd is a w h
    | some o =>
      rw [ho] at h
      simp only at h ⊢
      have hnd : ∀ c, o.op ≠ .defer c := by
        intro c e
        have := hd i o ho
        unfold noDefer at this
        rw [e] at this; cases this
      split
      · rename_i hw
        rw [if_pos hw] at h
        refine ⟨h.1, ?_⟩
        have h2 := h.2
        rw [hro, Oper.semAt_none] at h2
        rw [Oper.semAt_eq _ _ _ hnd]
        revert h2
        generalize (execOp a.eval o).run P w = r
        intro h2
        cases r with
        | ok v w' =>
          cases v with
          | value v => exact wpOpsIn_inRound hro l hd is _ _ h2
          | skip => exact wpOpsIn_inRound hro l hd is _ _ h2
          | defer d => exact wpOpsIn_inRound hro l hd is _ _ h2
          | enter f args =>
            refine ⟨h2.1, ?_⟩
            refine CallsIn.mono (CallsIn.inRound l h2.2) ?_
            rintro e w'' he
            cases e with
            | returned v => exact wpOpsIn_inRound hro l hd is _ _ he
            | panicked c => exact he
            | outgrown => exact he
          | row row args =>
            refine ⟨h2.1, ?_⟩
            have h3 : RowsIn (F.inRound l) (n - 1) P row args w' _ := h2.2
            exact h3.mono fun v w'' he => wpOpsIn_inRound hro l hd is _ _ he
          | round l' f tmps assign body =>
            refine ⟨h2.1, ?_⟩
            have h3 : RoundIn (F.inRound l) (n - 1) P l' f tmps assign body w' _ := h2.2
            refine h3.mono ?_
            rintro e w'' he
            cases e with
            | returned v => exact wpOpsIn_inRound hro l hd is _ _ he
            | panicked c => exact he
            | outgrown => exact he
          | _ => exact h2
        | halt hlt w' => cases hlt <;> exact h2
      · rename_i hw
        rw [if_neg hw] at h
        exact ⟨h.1, wpOpsIn_inRound hro l hd is _ _ h.2⟩
theorem wpIn_region_quiet_round {F : Fence} {n : Nat} {P : Program} {id : Nat} {Q : Exit → Act → World → Prop} {a : Act} {w : World} {l : List Oper} (lr : Nat) (hro : F.round = none) (hm : P.follows .mixedOrders = true) (hB : Region.lexB .any l.toArray = true) (hd : l.all noDefer = true)
    (h : wpQuietIn F n P l.toArray (fun w' => ∃ n, w' = w.drewN n) (fun a' => ∀ w', (∃ n, w' = w.drewN n) → Q .normal a' w') l a) : (Code.region id l.toArray true).wpIn (F.inRound lr) n P Q a w := by
  simp only [Region.lexB, Bool.and_eq_true] at hB
  refine wpIn_region_draw fun t => ?_
  simp only [Region.schedule, hm, Bool.true_or, if_true]
  refine wpOpsIn_inRound hro lr (fun i o ho => ?_) _ _ _ (wpAnyIn_sound l.toArray.size t _ a _ ?_)
  · have : o ∈ l := by
      rw [List.getElem?_toArray] at ho
      exact List.mem_of_getElem? ho
    exact List.all_eq_true.1 hd o this
  · refine wpAnyIn_of_quiet (C := fun w' => ∃ n, w' = w.drewN n) (Q := fun a' => ∀ w', (∃ n, w' = w.drewN n) → Q .normal a' w') hro (fun _ w' hw' h => h w' hw') _ _ _ _ ⟨1, rfl⟩ ?_
    have := wpAnyQIn_lex (F := F) (n := n) (C := fun w' => ∃ n, w' = w.drewN n) (md := .any) hB.1 l 0 (Array.replicate l.toArray.size false) a (by simp) (by simpa using hB.2) h
    simpa using this
structure Its where
  kd : Nat → Int
  fr : Nat → Int
  to : Nat → Int
  gr : Nat → ByteArray
  pl : Nat → ByteArray
  wh : Nat → ByteArray
  dp : Nat → Int
def Its.at (t : Its) (i : Nat) : Array Value := #[.int .i64 (t.kd i), .int .i64 (t.fr i), .int .i64 (t.to i), .string (t.gr i), .string (t.pl i), .string (t.wh i), .int .i64 (t.dp i)]
def Its.lies (t : Its) (W : World) (b off len : Nat) : Prop := ∀ j, j < len → W.cell? ⟨b, off + j * 7, none⟩ = some (.int .i64 (t.kd j)) ∧ W.cell? ⟨b, off + j * 7 + 1, none⟩ = some (.int .i64 (t.fr j)) ∧ W.cell? ⟨b, off + j * 7 + 2, none⟩ = some (.int .i64 (t.to j)) ∧
  W.cell? ⟨b, off + j * 7 + 3, none⟩ = some (.string (t.gr j)) ∧ W.cell? ⟨b, off + j * 7 + 4, none⟩ = some (.string (t.pl j)) ∧ W.cell? ⟨b, off + j * 7 + 5, none⟩ = some (.string (t.wh j)) ∧ W.cell? ⟨b, off + j * 7 + 6, none⟩ = some (.int .i64 (t.dp j))
theorem Its.lies_below {t : Its} {A B : World} {n₀ b off len : Nat} (h : t.lies A b off len) (hb : b < n₀) (hB : Below n₀ A B) : t.lies B b off len := fun j hj => by
  obtain ⟨h0, h1, h2, h3, h4, h5, h6⟩ := h j hj
  exact ⟨(hB.cell (p := ⟨b, _, none⟩) hb).trans h0, (hB.cell (p := ⟨b, _, none⟩) hb).trans h1, (hB.cell (p := ⟨b, _, none⟩) hb).trans h2, (hB.cell (p := ⟨b, _, none⟩) hb).trans h3, (hB.cell (p := ⟨b, _, none⟩) hb).trans h4, (hB.cell (p := ⟨b, _, none⟩) hb).trans h5, (hB.cell (p := ⟨b, _, none⟩) hb).trans h6⟩
def dnl (len k : Nat) : List Nat := (List.range k).map fun q => len - 1 - q
theorem dn_succ (len k : Nat) : dnl len (k + 1) = dnl len k ++ [len - 1 - k] := by simp [dnl, List.range_succ]
theorem dn_length (len k : Nat) : (dnl len k).length = k := by simp [dnl]
set_option maxRecDepth 100000 in
set_option maxHeartbeats 2000000 in
theorem bw1_in (F : Fence) (n : Nat) (h7 : F.fn 263) (hro : F.round = none) (hn : 1 ≤ n) (l Bs n₀ b off len cap : Nat) (t : Its) (hreach : len ≤ 4611686018427387904) (hb : b < n₀) (J Jx : List Nat → World → Prop)
    (hY : ∀ pre (x : Nat) W, J pre W → pre.length < len → YieldAt F (n - 1) Tryz.prog l #[.int .i64 (x : Int), .agg (t.at x)] W fun e W' =>
      (e = .returned (.bool true) ∧ J (pre ++ [x]) W' ∧ Below n₀ W W') ∨ (e = .returned (.bool false) ∧ Jx (pre ++ [x]) W'))
    (W : World) (hBs : W.cell? ⟨Bs, 0, none⟩ = some (.slice (some ⟨b, off, none⟩) len cap)) (hBn : Bs < n₀) (hc : t.lies W b off len) (h0 : J [] W) :
    CallsIn F n Tryz.prog 263 #[.func (.yield l) #[] #[], .pointer (some ⟨Bs, 0, none⟩)] W fun e W' => (∃ v, e = .returned v) ∧
      ((∃ ys, ys = dnl len len ∧ J ys W') ∨ (∃ pre, (∃ k, k ≤ len ∧ pre = dnl len k) ∧ Jx pre W')) := by
  refine callsIn_of_wp Tryz.func263 rfl h7 ?_ hro
  simp only [Tryz.ntmps263, List.size_toArray, List.length_cons, List.length_nil, Nat.reduceAdd, Nat.reduceSub, Array.replicate_succ, Array.replicate_zero, List.push_toArray, List.append_toArray, List.nil_append, List.cons_append]
  have HC : Hid (t.lies W b off len) := hc
  clear hc
  gi_wp2
  gi_loopw [3] (fun i wr => ∃ k : Nat, k ≤ len ∧ i = .int .i64 ((len : Int) - 1 - (k : Int)) ∧ J (dnl len k) wr ∧ Below n₀ W wr)
    (fun i _ => (Go.RowKit.intOf i + 1).toNat)
  case atStart => exact ⟨0, Nat.zero_le _, by simp, h0, Below.refl _ _⟩
  case round =>
    obtain ⟨k, hk, rfl, hJs, hnx⟩ := hrel
    have hBs' := (hnx.cell (p := ⟨Bs, 0, none⟩) hBn).trans hBs
    by_cases hlt : k < len
    · obtain ⟨fn, tmps, assign, body, hy, hR⟩ := hY _ (len - 1 - k) wr hJs (by rw [dn_length]; exact hlt)
      obtain ⟨c0, c1, c2, c3, c4, c5, c6⟩ := (Its.lies_below HC.out hb hnx) (len - 1 - k) (by omega)
      obtain ⟨q, hq⟩ : ∃ q, q = len - 1 - k := ⟨_, rfl⟩
      have hqi : (len : Int) - 1 - (k : Int) = (q : Int) := by omega
      rw [← hq] at c0 c1 c2 c3 c4 c5 c6 hy hR
      rw [hqi]
      have hql : q < len := by omega
      have HQ : Hid (q = len - 1 - k ∧ k < len) := ⟨hq, hlt⟩
      clear hq hqi hlt
      unfold Its.at at hy
      gi_wp2
      refine hR.mono ?_
      rintro e W3 (⟨rfl, hJ3, hk3⟩ | ⟨rfl, hJx3⟩)
      · gi_wp2
        go_roundw
        case rel =>
          obtain ⟨h1, h2⟩ := HQ.out
          refine ⟨k + 1, by omega, ?_, ?_, hnx.trans hk3⟩
          · have : (q : Int) - 1 = (len : Int) - 1 - ((k + 1 : Nat) : Int) := by omega
            rw [this]
          · rw [dn_succ, ← h1]; exact hJ3
        case measure => simp [Go.RowKit.intOf]
      · gi_wp2
        refine bodyPost_ret (results_none rfl _ _ _) rfl ?_
        obtain ⟨h1, h2⟩ := HQ.out
        exact ⟨⟨_, rfl⟩, .inr ⟨_, ⟨k + 1, by omega, by rw [dn_succ, ← h1]⟩, hJx3⟩⟩
    · obtain rfl : k = len := by omega
      gi_wp2
      go_end0
      exact ⟨⟨_, rfl⟩, .inl ⟨_, rfl, hJs⟩⟩
set_option maxRecDepth 100000 in
set_option maxHeartbeats 1000000 in
theorem bw1_nil_in (F : Fence) (n : Nat) (h7 : F.fn 263) (hro : F.round = none) (l Bs cap : Nat) (a : Option Addr) (J : List Nat → World → Prop) (W : World) (hBs : W.cell? ⟨Bs, 0, none⟩ = some (.slice a 0 cap)) (h0 : J [] W) :
    CallsIn F n Tryz.prog 263 #[.func (.yield l) #[] #[], .pointer (some ⟨Bs, 0, none⟩)] W fun e W' => (∃ v, e = .returned v) ∧ J [] W' := by
  refine callsIn_of_wp Tryz.func263 rfl h7 ?_ hro
  simp only [Tryz.ntmps263, List.size_toArray, List.length_cons, List.length_nil, Nat.reduceAdd, Nat.reduceSub, Array.replicate_succ, Array.replicate_zero, List.push_toArray, List.append_toArray, List.nil_append, List.cons_append]
  gi_wp2
  gi_loopw [3] (fun i wr => i = .int .i64 (-1) ∧ J [] wr) (fun _ _ => 0)
  case atStart => exact ⟨rfl, h0⟩
  case round =>
    obtain ⟨rfl, hJs⟩ := hrel
    gi_wp2
    go_end0
    exact ⟨⟨_, rfl⟩, hJs⟩
set_option maxHeartbeats 1000000 in
theorem bw_in (F : Fence) (n : Nat) (h5 : F.fn 244) (hro : F.round = none) (a : Option Addr) (len cap : Nat) (w : World) :
    CallsIn F n Tryz.prog 244 #[.slice a len cap] w fun e w' => e = .returned (.func (.func 263) #[] #[.pointer (some ⟨w.heap.size, 0, none⟩)]) ∧ w' = w.alloc (.cells #[.slice a len cap] 95) := by
  refine callsIn_of_wp Tryz.func244 rfl h5 ?_ hro
  simp only [Tryz.ntmps244, List.size_toArray, List.length_cons, List.length_nil, Nat.reduceAdd, Nat.reduceSub, Array.replicate_succ, Array.replicate_zero, List.push_toArray, List.append_toArray, List.nil_append, List.cons_append]
  gi_wp2
  go_ret
  exact ⟨rfl, rfl⟩
def Its.held (t : Its) (n₀ : Nat) (W : World) (a : Option Addr) (len : Nat) : Prop := len = 0 ∨ ∃ b off, a = some ⟨b, off, none⟩ ∧ b < n₀ ∧ t.lies W b off len
theorem Its.held_below {t : Its} {A B : World} {n₀ len : Nat} {a : Option Addr} (hB : Below n₀ A B) (h : t.held n₀ A a len) : t.held n₀ B a len := by
  rcases h with h | ⟨b, off, h1, h2, h3⟩
  · exact .inl h
  · exact .inr ⟨b, off, h1, h2, Its.lies_below h3 h2 hB⟩
theorem bw_stops (F : Fence) (n : Nat) (h7 : F.fn 263) (hro : F.round = none) (hn : 1 ≤ n) (Bs n₀ : Nat) (a : Option Addr) (len cap : Nat) (t : Its) (hreach : len ≤ 4611686018427387904) (w : World) (hBs : Bs < n₀) (hn₀ : n₀ ≤ w.heap.size)
    (hc : w.cell? ⟨Bs, 0, none⟩ = some (.slice a len cap)) (hI : t.held n₀ w a len) :
    SeqStopsK F n Tryz.prog 263 #[.pointer (some ⟨Bs, 0, none⟩)] (fun x : Nat => #[Value.int .i64 (x : Int), .agg (t.at x)]) (Below n₀) (fun ys => ys = dnl len len) (fun pre => ∃ k, k ≤ len ∧ pre = dnl len k) len w := fun l J Jx W hW _ _ hY h0 => by
  have hc' := (hW.cell (p := ⟨Bs, 0, none⟩) (by show Bs < w.heap.size; omega)).trans hc
  rcases Its.held_below (hW.mono hn₀) hI with rfl | ⟨b, off, rfl, hb, hcs⟩
  · exact (bw1_nil_in F n h7 hro l Bs cap a J W hc' h0).mono fun e W' ⟨he, hj⟩ => ⟨he, .inl ⟨_, rfl, hj⟩⟩
  · exact bw1_in F n h7 hro hn l Bs n₀ b off len cap t hreach hb J Jx hY W hc' hBs hcs h0
section
variable (t : Its) (kx fx tx dx lasts : Int) (gx px wx : ByteArray)
def stopB (i : Nat) : Bool := ((t.gr i).toList == gx.toList) && ((t.kd i == 1) || ((t.kd i == 0) && (decide (t.to i ≤ fx) && decide (Go.RowKit.wrap64 (fx - t.to i) ≤ lasts))))
def stopV (i : Nat) : Int := bif t.kd i == 1 then -1 else i
def backS : Nat → Int
  | 0 => -1
  | k + 1 => bif stopB t fx lasts gx k then stopV t k else backS k
end
theorem backS_skip {t : Its} {fx lasts : Int} {gx : ByteArray} {len : Nat} : ∀ k, k ≤ len → (∀ i ∈ dnl len k, stopB t fx lasts gx i = false) → backS t fx lasts gx len = backS t fx lasts gx (len - k)
  | 0, _, _ => rfl
  | k + 1, hk, h => by
    rw [backS_skip k (by omega) fun i hi => h i (by rw [dn_succ]; exact List.mem_append_left _ hi)]
    have h1 := h (len - 1 - k) (by rw [dn_succ]; simp)
    rw [show len - k = (len - 1 - k) + 1 by omega]
    simp only [backS, h1, cond_false]
    congr 1; omega
def Rowed (W : World) (B : Nat) (ty : TypeId) (vs : Array Value) : Prop := W.heap[B]? = some (.cells vs ty (0, 0))
theorem rowed_own {β : Type} (B : Nat) (ty : TypeId) (f : β → Array Value) : Own (fun s W => Rowed W B ty (f s)) := fun s X Y row hs hg hrow => by
  have hlt : B < X.heap.size := (Array.getElem?_eq_some_iff.1 hs).1
  refine (hg.block B hlt (fun e' => ?_)).trans hs
  obtain ⟨o, ho, hc⟩ := hrow B e'.symm
  rw [show X.heap[B]? = _ from hs] at ho; cases ho; cases hc
theorem Rowed.cell {W : World} {B : Nat} {ty : TypeId} {vs : Array Value} (h : Rowed W B ty vs) (j : Nat) (hj : j < vs.size) : W.cell? ⟨B, j, none⟩ = some (vs[j]'hj) := by
  simp [World.cell?, show W.heap[B]? = _ from h, hj]
theorem Rowed.frozen {W : World} {B : Nat} {ty : TypeId} {vs : Array Value} (h : Rowed W B ty vs) (j : Nat) : W.frozen? ⟨B, j, none⟩ = false := by simp [World.frozen?, show W.heap[B]? = _ from h]
theorem Rowed.new (W : World) (ty : TypeId) (vs : Array Value) : Rowed (W.alloc (.cells vs ty)) W.heap.size ty vs := World.alloc_heap_new W _
theorem Rowed.set {W : World} {B : Nat} {ty : TypeId} {v : Value} (h : Rowed W B ty #[v]) (v' : Value) : Rowed (W.setCell ⟨B, 0, none⟩ v') B ty #[v'] := Boxed.set v' h
theorem World.drewN_heap (W : World) (k : Nat) : (W.drewN k).heap = W.heap := by
  induction k with
  | zero => rfl
  | succ k ih => exact ih
theorem belowDrewN {B : Nat} {a w : World} (h : Below B a w) (n : Nat) : Below B a (w.drewN n) := h.trans ⟨rfl, rfl, rfl, Nat.le_refl _, fun _ _ => rfl⟩
theorem keepsOthers_drewN (W : World) (k : Nat) : KeepsOthers W (W.drewN k) := by
  induction k with
  | zero => exact KeepsOthers.refl _
  | succ k ih => exact ih.trans (KeepsOthers.drew _)
theorem Rowed.drewN {W : World} {B : Nat} {ty : TypeId} {vs : Array Value} (h : Rowed W B ty vs) (k : Nat) : Rowed (W.drewN k) B ty vs := by
  unfold Rowed; rw [World.drewN_heap]; exact h
theorem Rowed.alloc {W : World} {B : Nat} {ty : TypeId} {vs : Array Value} (h : Rowed W B ty vs) (o : Obj) : Rowed (W.alloc o) B ty vs := by
  have hlt : B < W.heap.size := (Array.getElem?_eq_some_iff.1 h).1
  exact (Below.heap_alloc W o B hlt).trans h
set_option maxRecDepth 100000 in
set_option maxHeartbeats 4000000 in
theorem tune_in (F : Fence) (n : Nat) (h3 : F.fn 199) (h5 : F.fn 244) (h7 : F.fn 263) (hro : F.round = none) (hn : 6 ≤ n) (pb po : Nat) (lasts : Int) (a : Option Addr) (len cap : Nat) (t : Its) (kx fx tx dx : Int) (gx px wx : ByteArray) (hreach : len ≤ 4611686018427387904) (w : World)
    (hpb : pb < w.heap.size) (hp : w.cell? ⟨pb, po + 5, none⟩ = some (.int .i64 lasts)) (hI : t.held w.heap.size w a len) :
    CallsIn F n Tryz.prog 199 #[.pointer (some ⟨pb, po, none⟩), .slice a len cap, .agg #[.int .i64 kx, .int .i64 fx, .int .i64 tx, .string gx, .string px, .string wx, .int .i64 dx]] w fun e W' => e = .returned (.int .i64 (backS t fx lasts gx len)) ∧ Below w.heap.size w W' := by
  have h1 : 1 ≤ n := by omega
  refine callsIn_of_wp_marks Tryz.func199 rfl h3 ?_ hro
  simp only [Tryz.ntmps199, List.size_toArray, List.length_cons, List.length_nil, Nat.reduceAdd, Nat.reduceSub, Array.replicate_succ, Array.replicate_zero, List.push_toArray, List.append_toArray, List.nil_append, List.cons_append]
  gi_wp2_with (gi_at_call 244; refine (bw_in F (n - 1) h5 hro _ _ _ _).mono ?_; rintro e w' ⟨rfl, rfl⟩)
  have r0 := (((Rowed.new w 167 #[.pointer (some ⟨pb, po, none⟩)]).alloc (.cells #[.int .i64 kx, .int .i64 fx, .int .i64 tx, .string gx, .string px, .string wx, .int .i64 dx] 37)).alloc (.cells #[.int .i64 0] 3)).alloc (.cells #[.slice a len cap] 95)
  have r1 := ((Rowed.new (w.alloc (.cells #[.pointer (some ⟨pb, po, none⟩)] 167)) 37 #[.int .i64 kx, .int .i64 fx, .int .i64 tx, .string gx, .string px, .string wx, .int .i64 dx]).alloc (.cells #[.int .i64 0] 3)).alloc (.cells #[.slice a len cap] 95)
  have r2 := (Rowed.new ((w.alloc (.cells #[.pointer (some ⟨pb, po, none⟩)] 167)).alloc (.cells #[.int .i64 kx, .int .i64 fx, .int .i64 tx, .string gx, .string px, .string wx, .int .i64 dx] 37)) 3 #[.int .i64 0]).alloc (.cells #[.slice a len cap] 95)
  have r3 := Rowed.new (((w.alloc (.cells #[.pointer (some ⟨pb, po, none⟩)] 167)).alloc (.cells #[.int .i64 kx, .int .i64 fx, .int .i64 tx, .string gx, .string px, .string wx, .int .i64 dx] 37)).alloc (.cells #[.int .i64 0] 3)) 95 #[.slice a len cap]
  simp only [World.size_alloc] at r1 r2 r3
  have hB0 : Below w.heap.size w ((((w.alloc (.cells #[.pointer (some ⟨pb, po, none⟩)] 167)).alloc (.cells #[.int .i64 kx, .int .i64 fx, .int .i64 tx, .string gx, .string px, .string wx, .int .i64 dx] 37)).alloc (.cells #[.int .i64 0] 3)).alloc (.cells #[.slice a len cap] 95)) :=
    ((((Below.refl _ w).alloc (Nat.le_refl _) _).alloc (by simp) _).alloc (by simp; omega) _).alloc (by simp; omega) _
  have hsz : ((((w.alloc (.cells #[.pointer (some ⟨pb, po, none⟩)] 167)).alloc (.cells #[.int .i64 kx, .int .i64 fx, .int .i64 tx, .string gx, .string px, .string wx, .int .i64 dx] 37)).alloc (.cells #[.int .i64 0] 3)).alloc (.cells #[.slice a len cap] 95)).heap.size = w.heap.size + 4 := by simp
  obtain ⟨W0, hW0⟩ : ∃ W0, (((w.alloc (.cells #[.pointer (some ⟨pb, po, none⟩)] 167)).alloc (.cells #[.int .i64 kx, .int .i64 fx, .int .i64 tx, .string gx, .string px, .string wx, .int .i64 dx] 37)).alloc (.cells #[.int .i64 0] 3)).alloc (.cells #[.slice a len cap] 95) = W0 := ⟨_, rfl⟩
  rw [hW0] at r0 r1 r2 r3 hB0 hsz ⊢
  clear hW0
  have hI0 : t.held W0.heap.size W0 a len := by
    rcases Its.held_below hB0 hI with h | ⟨b, off, e1, e2, e3⟩
    · exact .inl h
    · exact .inr ⟨b, off, e1, by omega, e3⟩
  refine wpIn_rangeFunc_ownH hro h1 (gf := 263) (lb := #[.pointer (some ⟨w.heap.size + 1 + 1 + 1, 0, none⟩)]) rfl h7 (enters_of Tryz.func263 (by kernel_rfl) rfl)
    (bw_stops F (n - 1) h7 hro (by omega) (w.heap.size + 1 + 1 + 1) W0.heap.size a len cap t hreach W0 (by omega) (Nat.le_refl _) (r3.cell 0 (by simp)) hI0) belowK_t (belowK_b (by omega)) (Below.refl _ _) (fun _ => rfl)
    (fun pre W => ((Rowed W w.heap.size 167 #[.pointer (some ⟨pb, po, none⟩)] ∧ Rowed W (w.heap.size + 1) 37 #[.int .i64 kx, .int .i64 fx, .int .i64 tx, .string gx, .string px, .string wx, .int .i64 dx] ∧ Rowed W (w.heap.size + 1 + 1) 3 #[.int .i64 0]) ∧ ∀ i ∈ pre, stopB t fx lasts gx i = false) ∧ Below w.heap.size w W ∧ W0.heap.size ≤ W.heap.size)
    (fun c pre W => (c = .ret ∧ ∃ ini last, pre = ini ++ [last] ∧ (∀ i ∈ ini, stopB t fx lasts gx i = false) ∧ stopB t fx lasts gx last = true ∧ Rowed W (w.heap.size + 1 + 1) 3 #[.int .i64 (stopV t last)]) ∧ Below w.heap.size w W)
    ?hI ?hIx ⟨⟨⟨r0, r1, r2⟩, by simp⟩, hB0, Nat.le_refl _⟩
    (fun x a' W => ∃ Bx, w.heap.size + 1 + 1 + 1 < Bx ∧ Rowed W Bx 37 (t.at x) ∧ a' = { tmps := #[.pointer (some ⟨pb, po, none⟩), .slice a len cap, .agg #[.int .i64 kx, .int .i64 fx, .int .i64 tx, .string gx, .string px, .string wx, .int .i64 dx], .pointer (some ⟨w.heap.size, 0, none⟩), undef, .pointer (some ⟨w.heap.size + 1, 0, none⟩), .pointer (some ⟨w.heap.size + 1 + 1, 0, none⟩), .int .i64 (x : Int), .pointer (some ⟨Bx, 0, none⟩), .slice a len cap, .func (.func 263) #[] #[.pointer (some ⟨w.heap.size + 1 + 1 + 1, 0, none⟩)], .int .i64 (x : Int), .agg (t.at x), undef, undef, undef, undef, undef, undef, undef, undef, undef, undef, undef, undef, undef, undef, undef, undef, undef, undef, undef, undef, undef, undef, undef, undef, undef, undef, undef, undef, undef, undef, undef, undef], defers := [] })
    (fun x a' _ X Y row hs hg hr => by obtain ⟨Bx, h1, h2, h3⟩ := hs; exact ⟨Bx, h1, rowed_own Bx 37 (fun (_ : Unit) => t.at x) () X Y row h2 hg (fun r e => (hr r e).2), h3⟩)
    ?assign ?body ?done ?stop
  case hI =>
    refine OwnFrom.and (OwnFrom.and (OwnFrom.and (Own.from (rowed_own _ _ _) _) (OwnFrom.and (Own.from (rowed_own _ _ _) _) (Own.from (rowed_own _ _ _) _))) (ownFrom_pure _ _)) (OwnFrom.and (ownFrom_below (Nat.le_refl _) (by omega)) fun _ _ _ _ hs hg _ => Nat.le_trans hs hg.size)
  case hIx =>
    intro c
    refine OwnFrom.and (Own.from (fun s A B row hs hg hr => ?_) _) (ownFrom_below (Nat.le_refl _) (by omega))
    obtain ⟨hc, ini, last, e1, e2, e3, e4⟩ := hs
    exact ⟨hc, ini, last, e1, e2, e3, rowed_own _ 3 (fun (_ : Unit) => #[.int .i64 (stopV t last)]) () A B row e4 hg hr⟩
  case assign =>
    rintro l pre x W K ⟨⟨⟨q0, q1, q2⟩, hpre⟩, hBw, hW⟩ hK
    unfold Its.at at hK ⊢
    gi_wp2
    exact hK _ _ ((KeepsOthers.alloc _ _).from _) ((Below.refl _ W).alloc hW _) ⟨⟨⟨q0.alloc _, q1.alloc _, q2.alloc _⟩, hpre⟩, hBw.alloc hBw.size _, by rw [World.size_alloc]; omega⟩ ⟨W.heap.size, by omega, Rowed.new W _ _, rfl⟩
  case body =>
    rintro l pre x a' W hl ⟨r, hr⟩ ⟨⟨⟨q0, q1, q2⟩, hpre⟩, hBw, hW⟩ ⟨Bx, hBx, rx, rfl⟩ hlt
    unfold Its.at at rx ⊢
    have x0 : W.cell? ⟨Bx, 0, none⟩ = some (.int .i64 (t.kd x)) := rx.cell 0 (by simp)
    have x2 : W.cell? ⟨Bx, 2, none⟩ = some (.int .i64 (t.to x)) := rx.cell 2 (by simp)
    have x3 : W.cell? ⟨Bx, 3, none⟩ = some (.string (t.gr x)) := rx.cell 3 (by simp)
    have y1 : W.cell? ⟨w.heap.size + 1, 1, none⟩ = some (.int .i64 fx) := q1.cell 1 (by simp)
    have y3 : W.cell? ⟨w.heap.size + 1, 3, none⟩ = some (.string gx) := q1.cell 3 (by simp)
    have p0 : W.cell? ⟨w.heap.size, 0, none⟩ = some (.pointer (some ⟨pb, po, none⟩)) := q0.cell 0 (by simp)
    have p5 : W.cell? ⟨pb, po + 5, none⟩ = some (.int .i64 lasts) := (hBw.cell (p := ⟨pb, po + 5, none⟩) hpb).trans hp
    have z0 : W.cell? ⟨w.heap.size + 1 + 1, 0, none⟩ = some (.int .i64 0) := q2.cell 0 (by simp)
    have zf : W.frozen? ⟨w.heap.size + 1 + 1, 0, none⟩ = false := q2.frozen 0
    have mixed : Tryz.prog.follows .mixedOrders = true := by kernel_rfl
    gi_wp2
    · have hg : (!(t.gr x).toList == gx.toList) = true := by assumption
      have hst : stopB t fx lasts gx x = false := by
        unfold stopB
        have : ((t.gr x).toList == gx.toList) = false := by simpa using hg
        rw [this]; rfl
      exact ⟨KeepsFrom.refl _ _, Below.refl _ _, ⟨⟨q0, q1, q2⟩, fun i hi => (List.mem_append.1 hi).elim (hpre i) (fun e => by rw [List.mem_singleton] at e; subst e; exact hst)⟩, hBw, hW⟩
    · have hg : (!(t.gr x).toList == gx.toList) = false := by assumption
      have hk : (t.kd x == 1) = true := by assumption
      have hst : stopB t fx lasts gx x = true := by
        unfold stopB
        have : ((t.gr x).toList == gx.toList) = true := by simpa using hg
        rw [this, hk]; rfl
      have hv : stopV t x = -1 := by unfold stopV; rw [hk]; rfl
      refine ⟨(KeepsOthers.setCell _ _ _).from _, ⟨rfl, pre, x, rfl, hpre, hst, ?_⟩, hBw.setCell (p := ⟨w.heap.size + 1 + 1, 0, none⟩) (by show w.heap.size ≤ w.heap.size + 1 + 1; omega) _⟩
      rw [hv]
      exact Rowed.set q2 _
    · have hg : (!(t.gr x).toList == gx.toList) = false := by assumption
      have hk : (t.kd x == 1) = false := by assumption
      by_cases k0 : t.kd x = 0
      · by_cases k1 : t.to x ≤ fx
        · refine wpIn_region_quiet_round l hro mixed (by kernel_rfl) (by kernel_rfl) ?_
          repeat (gi_big_quiet_step (fail))
          refine wpQuietIn_nil ?_
          rintro _ ⟨nq, rfl⟩
          have hgr : ((t.gr x).toList == gx.toList) = true := by simpa using hg
          gi_wp2
          · have hle : Go.RowKit.wrap64 (fx - t.to x) ≤ lasts := by assumption
            have hst : stopB t fx lasts gx x = true := by
              unfold stopB
              rw [hgr, hk, k0]
              simp [k1, hle]
            have hv : stopV t x = x := by unfold stopV; rw [hk]; rfl
            refine ⟨((keepsOthers_drewN W nq).trans (KeepsOthers.setCell _ _ _)).from _, ⟨rfl, pre, x, rfl, hpre, hst, ?_⟩, (belowDrewN hBw nq).setCell (p := ⟨w.heap.size + 1 + 1, 0, none⟩) (by show w.heap.size ≤ w.heap.size + 1 + 1; omega) _⟩
            rw [hv]
            exact Rowed.set (q2.drewN nq) _
          · have hle : lasts < Go.RowKit.wrap64 (fx - t.to x) := by assumption
            have hst : stopB t fx lasts gx x = false := by
              unfold stopB
              rw [hgr, hk, k0]
              simp [k1]
              omega
            exact ⟨(keepsOthers_drewN W nq).from _, belowDrewN (Below.refl _ W) nq, ⟨⟨q0.drewN nq, q1.drewN nq, q2.drewN nq⟩, fun i hi => (List.mem_append.1 hi).elim (hpre i) (fun e => by rw [List.mem_singleton] at e; subst e; exact hst)⟩, belowDrewN hBw nq, hW⟩
        · refine wpIn_region_quiet_round l hro mixed (by kernel_rfl) (by kernel_rfl) ?_
          repeat (gi_big_quiet_step (fail))
          refine wpQuietIn_nil ?_
          rintro _ ⟨nq, rfl⟩
          have hst : stopB t fx lasts gx x = false := by
            unfold stopB
            rw [hk, k0]
            have : decide (t.to x ≤ fx) = false := decide_eq_false k1
            rw [this]; simp
          gi_wp2
          exact ⟨(keepsOthers_drewN W nq).from _, belowDrewN (Below.refl _ W) nq, ⟨⟨q0.drewN nq, q1.drewN nq, q2.drewN nq⟩, fun i hi => (List.mem_append.1 hi).elim (hpre i) (fun e => by rw [List.mem_singleton] at e; subst e; exact hst)⟩, belowDrewN hBw nq, by have := hsz; show w.heap.size + 4 ≤ W.heap.size; omega⟩
      · have k0' : (t.kd x == 0) = false := by simpa using k0
        refine wpIn_region_quiet_round l hro mixed (by kernel_rfl) (by kernel_rfl) ?_
        repeat (gi_big_quiet_step (fail))
        refine wpQuietIn_nil ?_
        rintro _ ⟨nq, rfl⟩
        have hst : stopB t fx lasts gx x = false := by
          unfold stopB
          rw [hk, k0']; simp
        gi_wp2
        exact ⟨(keepsOthers_drewN W nq).from _, belowDrewN (Below.refl _ W) nq, ⟨⟨q0.drewN nq, q1.drewN nq, q2.drewN nq⟩, fun i hi => (List.mem_append.1 hi).elim (hpre i) (fun e => by rw [List.mem_singleton] at e; subst e; exact hst)⟩, belowDrewN hBw nq, hW⟩
  case done =>
    rintro D ys W hD rfl ⟨⟨⟨q0, q1, q2⟩, hpre⟩, hBw, hW⟩ hK
    have z0 : W.cell? ⟨w.heap.size + 1 + 1, 0, none⟩ = some (.int .i64 0) := q2.cell 0 (by simp)
    have zf : W.frozen? ⟨w.heap.size + 1 + 1, 0, none⟩ = false := q2.frozen 0
    gi_wp2
    have hK' := (KeepsOthers.setCell W ⟨w.heap.size + 1 + 1, 0, none⟩ (.int .i64 (-1))).same D _ hK rfl
    refine ⟨by simp, .inl ⟨_, _, rfl, run_takeDeferred hK', ?_⟩⟩
    have hc5 := cell_kept ((Rowed.set q2 (.int .i64 (-1))).cell 0 (by simp)) (grownBy_putObj' _ D (.deferred none)) (fun r e => by cases e; exact ⟨_, hK', rfl⟩)
    refine ⟨.int .i64 (-1), ?_, ?_, (hBw.setCell (p := ⟨w.heap.size + 1 + 1, 0, none⟩) (by show w.heap.size ≤ w.heap.size + 1 + 1; omega) _).trans (belowK_b (w := w) (Nat.le_refl _) _ D _ _ (by omega) hK' rfl rfl)⟩
    · simp at hc5
      simp [results, Tryz.f199, go_sem, hc5]
    · rw [backS_skip len (Nat.le_refl _) hpre, Nat.sub_self]; rfl
  case stop =>
    rintro D c pre W hD ⟨k, hk, rfl⟩ ⟨⟨rfl, ini, last, e1, e2, e3, hcr⟩, hB⟩ hK
    gi_wp2
    refine ⟨by simp, .inl ⟨_, _, rfl, run_takeDeferred hK, ?_⟩⟩
    have hc5 := cell_kept (hcr.cell 0 (by simp)) (grownBy_putObj' _ D (.deferred none)) (fun r e => by cases e; exact ⟨_, hK, rfl⟩)
    obtain ⟨k', rfl⟩ : ∃ k', k = k' + 1 := by
      cases k with
      | zero => simp [dnl] at e1
      | succ k' => exact ⟨k', rfl⟩
    rw [dn_succ] at e1
    obtain ⟨rfl, e5⟩ := List.append_inj' e1 rfl
    obtain rfl : len - 1 - k' = last := by simpa using e5
    refine ⟨.int .i64 (stopV t (len - 1 - k')), ?_, ?_, hB.trans (belowK_b (w := w) (Nat.le_refl _) _ D _ _ (by omega) hK rfl rfl)⟩
    · simp at hc5
      simp [results, Tryz.f199, go_sem, hc5]
    · rw [backS_skip k' (by omega) e2, show len - k' = (len - 1 - k') + 1 by omega]
      simp only [backS, e3, cond_true]
end
section
open Go Go.Proofs Go.Shelf Go.RowKit Go.Lib
set_option maxHeartbeats 4000000 in
set_option maxRecDepth 100000 in
theorem ins_end (a va : Option Addr) (n c vc : Nat) (w w1 : World) (r : Value)
    (hr : (Builtin.append_ #[95, 95] 95 #[.slice a n c, .slice va 1 vc]).run Tryz.prog w = .ok r w1) (hc : n ≤ c) (hnil : a = none → n = 0) :
    Calls Tryz.prog 153 #[.slice a n c, .int .i64 n, .slice va 1 vc] w fun e w' => e = .returned r ∧ w' = w1 := by
  refine calls_of_wp Tryz.func153 rfl ?_
  simp only [Tryz.ntmps153, List.size_toArray, List.length_cons, List.length_nil, Nat.reduceAdd, Nat.reduceSub, Array.replicate_succ, Array.replicate_zero, List.push_toArray, List.append_toArray, List.nil_append, List.cons_append]
  cases a with
  | none =>
    have h0 := hnil rfl
    subst h0
    go_wp2_with (at_builtin; refine Lib.wpList_append_run _ rfl _ _ _ _ rfl _ _ rfl rfl _ _ hr ?_)
    all_goals (go_ret; exact ⟨rfl, rfl⟩)
  | some a =>
    obtain ⟨ab, ao, asp⟩ := a
    go_wp2_with (at_builtin; refine Lib.wpList_append_run _ rfl _ _ _ _ rfl _ _ rfl rfl _ _ hr ?_)
    all_goals (go_ret; exact ⟨rfl, rfl⟩)
set_option maxHeartbeats 4000000 in
set_option maxRecDepth 100000 in
theorem ins_room (b off vb voff n c i vc : Nat) (w w1 w2 : World) (hi : i < n) (hroom : n + 1 ≤ c) (hn63 : n + 1 ≤ 9223372036854775807) 
    (hov : ∀ lb cb, (callFunc 213 #[.slice (some ⟨vb, voff, none⟩) 1 vc, .slice (some ⟨b, off + (i + 1) * 7, none⟩) lb cb]).run Tryz.prog w = .ok (.value (.bool false)) w)
    (h1 : (Builtin.copy_ #[95, 95] 3 #[.slice (some ⟨b, off + (i + 1) * 7, none⟩) (n + 1 - (i + 1)) (c - (i + 1)), .slice (some ⟨b, off + i * 7, none⟩) (n + 1 - i) (c - i)]).run Tryz.prog w.drew = .ok (goInt (n - i : Nat)) w1)
    (h2 : (Builtin.copy_ #[95, 95] 3 #[.slice (some ⟨b, off + i * 7, none⟩) (n + 1 - i) (c - i), .slice (some ⟨vb, voff, none⟩) 1 vc]).run Tryz.prog w1 = .ok (goInt 1) w2) :
    Calls Tryz.prog 153 #[.slice (some ⟨b, off, none⟩) n c, .int .i64 i, .slice (some ⟨vb, voff, none⟩) 1 vc] w fun e w' => e = .returned (.slice (some ⟨b, off, none⟩) (n + 1) c) ∧ w' = w2 := by
  refine calls_of_wp Tryz.func153 rfl ?_
  simp only [Tryz.ntmps153, List.size_toArray, List.length_cons, List.length_nil, Nat.reduceAdd, Nat.reduceSub, Array.replicate_succ, Array.replicate_zero, List.push_toArray, List.append_toArray, List.nil_append, List.cons_append]
  have hz2 : ¬ ((i : Int) = (n : Int)) := by omega
  have hw1 : IntKind.i64.wrap ((i : Int) + 1) = (i : Int) + 1 := by rw [IntKind.wrap_i64]; omega
  have hb1 : (0 : Int) ≤ (i : Int) + 1 := by omega
  have hin : i ≤ n := by omega
  have htn : ((i : Int) + 1).toNat = i + 1 := by omega
  have hb2 : ¬ (c = i + 1) := by omega
  have hb3 : (i : Int) ≤ (n : Int) + 1 := by omega
  have hb4 : ¬ (c = i) := by omega
  have mixed : Tryz.prog.follows .mixedOrders = true := by kernel_rfl
  go_wp2_with (simp only [hov])
  go_region_law_o (refine step_copy_runI rfl _ _ 95 95 rfl (.slice (some ⟨b, off + (i + 1) * 7, none⟩) (n + 1 - (i + 1)) (c - (i + 1))) (.slice (some ⟨b, off + i * 7, none⟩) (n + 1 - i) (c - i)) (by simp [Act.eval, Act.put]) (by simp [Act.eval, Act.put]) h1 ?_)
  go_wp2_with (at_builtin; refine wpList_copy_runI _ rfl _ _ 95 95 rfl _ _ rfl rfl h2 ?_)
  go_ret
  exact ⟨rfl, rfl⟩
set_option maxHeartbeats 4000000 in
set_option maxRecDepth 100000 in
theorem ins_grow (b off vb voff n c i vc nb G : Nat) (w w1 w2 w3 : World) (hi : i < n) (hroom : c < n + 1) (hnc : n ≤ c) (hG : n + 1 ≤ G) (hn63 : n + 1 ≤ 9223372036854775807) 
    (hrz : (Builtin.append_ #[95, 3] 95 #[.slice (some ⟨b, off, none⟩) i c, .int .i64 ((n : Int) + 1 - (i : Int))]).run Tryz.prog w = .ok (.slice (some ⟨nb, 0, none⟩) (n + 1) G) w1)
    (h1 : (Builtin.copy_ #[95, 95] 3 #[.slice (some ⟨nb, i * 7, none⟩) (n + 1 - i) (G - i), .slice (some ⟨vb, voff, none⟩) 1 vc]).run Tryz.prog w1 = .ok (goInt 1) w2)
    (h2 : (Builtin.copy_ #[95, 95] 3 #[.slice (some ⟨nb, (i + 1) * 7, none⟩) (n + 1 - (i + 1)) (G - (i + 1)), .slice (some ⟨b, off + i * 7, none⟩) (n - i) (c - i)]).run Tryz.prog w2.drew = .ok (goInt (n - i : Nat)) w3) :
    Calls Tryz.prog 153 #[.slice (some ⟨b, off, none⟩) n c, .int .i64 i, .slice (some ⟨vb, voff, none⟩) 1 vc] w fun e w' => e = .returned (.slice (some ⟨nb, 0, none⟩) (n + 1) G) ∧ w' = w3 := by
  refine calls_of_wp Tryz.func153 rfl ?_
  simp only [Tryz.ntmps153, List.size_toArray, List.length_cons, List.length_nil, Nat.reduceAdd, Nat.reduceSub, Array.replicate_succ, Array.replicate_zero, List.push_toArray, List.append_toArray, List.nil_append, List.cons_append]
  have hz2 : ¬ ((i : Int) = (n : Int)) := by omega
  have hw1 : IntKind.i64.wrap ((i : Int) + 1) = (i : Int) + 1 := by rw [IntKind.wrap_i64]; omega
  have hb1 : (0 : Int) ≤ (i : Int) + 1 := by omega
  have hin : i ≤ n := by omega
  have htn : ((i : Int) + 1).toNat = i + 1 := by omega
  have hb3 : (i : Int) ≤ (n : Int) := by omega
  have hGi : ¬ (G = i) := by omega
  have hGim : ¬ (G = i + 1) := by omega
  have hci : ¬ (c = i) := by omega
  have mixed : Tryz.prog.follows .mixedOrders = true := by kernel_rfl
  go_wp2_with (first
    | (at_builtin; refine Lib.wpList_append_run _ rfl _ _ _ _ rfl _ _ rfl rfl _ _ hrz ?_)
    | (at_builtin; refine wpList_copy_runI _ rfl _ _ 95 95 rfl _ _ rfl rfl h1 ?_))
  go_region_law_o (refine step_copy_runI rfl _ _ 95 95 rfl (.slice (some ⟨nb, (i + 1) * 7, none⟩) (n + 1 - (i + 1)) (G - (i + 1))) (.slice (some ⟨b, off + i * 7, none⟩) (n - i) (c - i)) (by simp [Act.eval, Act.put]) (by simp [Act.eval, Act.put]) h2 ?_)
  go_wp2
  go_ret
  exact ⟨rfl, rfl⟩
end
section
open Go Go.Proofs
def itsL (l : List Item) : Its := ⟨fun i => (ix l i).Kind, fun i => (ix l i).From, fun i => (ix l i).To, fun i => ⟨⟨(ix l i).Grand⟩⟩, fun i => ⟨⟨(ix l i).Place⟩⟩, fun i => ⟨⟨(ix l i).Who⟩⟩, fun i => (ix l i).Deposit⟩
theorem stopB_eq (l : List Item) (x : Item) (lasts : Int) (i : Nat) : stopB (itsL l) x.From lasts ⟨⟨x.Grand⟩⟩ i = tunStop x lasts (ix l i) := by
  unfold stopB tunStop itsL
  simp only [ByteArray.toList_eq, IntKind.wrap_i64, RowKit.wrap64]
theorem backS_eq (l : List Item) (x : Item) (lasts : Int) : ∀ k, backS (itsL l) x.From lasts ⟨⟨x.Grand⟩⟩ k = tuneL x lasts l k
  | 0 => rfl
  | k + 1 => by
    unfold backS tuneL
    rw [stopB_eq, backS_eq l x lasts k]
    rfl
theorem its_held {w : World} {F : Nat → Prop} {β : Beta} {v : Value} {l : List Item} (h : SlAt w F β 7 v (l.map eItem)) : ∃ a cap, v = .slice a l.length cap ∧ (itsL l).held w.heap.size w a l.length := by
  obtain ⟨a, cap, rfl, h⟩ := h
  refine ⟨a, cap, by simp, ?_⟩
  rcases h with h | ⟨b, p, rfl, _, _, hc⟩
  · left; simpa using h
  · by_cases h0 : l.length = 0
    · exact .inl h0
    · right
      have cell : ∀ i j, i < l.length → (hj : j < 7) → w.cell? ⟨b, p + i * 7 + j, none⟩ = some (((itsL l).at i)[j]'hj) := fun i j hi hj => by
        obtain ⟨u, h1, h2⟩ := hc i j (by simpa using hi) hj
        rw [nth_mapi hi] at h2
        rw [h1]
        match j, hj, h2 with
        | 0, _, h2 => rw [(VRep.p_inv h2).1]; rfl
        | 1, _, h2 => rw [(VRep.p_inv h2).1]; rfl
        | 2, _, h2 => rw [(VRep.p_inv h2).1]; rfl
        | 3, _, h2 => rw [(VRep.p_inv h2).1]; rfl
        | 4, _, h2 => rw [(VRep.p_inv h2).1]; rfl
        | 5, _, h2 => rw [(VRep.p_inv h2).1]; rfl
        | 6, _, h2 => rw [(VRep.p_inv h2).1]; rfl
      refine ⟨b, p, rfl, ?_, fun i hi => ⟨cell i 0 hi (by decide), cell i 1 hi (by decide), cell i 2 hi (by decide), cell i 3 hi (by decide), cell i 4 hi (by decide), cell i 5 hi (by decide), cell i 6 hi (by decide)⟩⟩
      have := cell 0 0 (by omega) (by decide)
      simp only [World.cell?] at this
      by_cases hb : b < w.heap.size
      · exact hb
      · rw [Array.getElem?_eq_none (by omega)] at this; simp at this
theorem FnL_tune {lasts : Int} {k : Nat} {es : List V} {ob : Objs} {l : List Item} {x : Item} {y : V} {rd : List Nat} (hall : ∀ j, j < ob.length → oget ob j ≠ none) (h0 : oget ob 0 = some (.row k es)) (hne : 0 < es.length) (hk : 5 < k) (hl : nth (nth es 0).flat 5 = vi lasts)
    (hs : elemsOf 7 (oget ob) y = some (List.map eItem l, rd, true)) (hp : ∀ u, y ≠ .p u) (hlen : l.length ≤ 4611686018427387904) : FnL Tryz.prog 199 [.ptr 0 0 0, y, eItem x] ob (vi (tuneL x lasts l l.length)) ob := by
  refine ⟨Tryz.call199, Nat.le_refl _, hall, fun w F β args hr hc => ?_⟩
  obtain ⟨hsz, hv⟩ := hc
  have v0 := hv 0 (by simp)
  have v1 := hv 1 (by simp)
  have v2 := hv 2 (by simp)
  obtain ⟨a0, a1, a2, rfl⟩ : ∃ a0 a1 a2, args = #[a0, a1, a2] := by
    obtain ⟨l⟩ := args
    match l, hsz with
    | [a, b, c], _ => exact ⟨a, b, c, rfl⟩
  have v0 : VRep w F β a0 (.ptr 0 0 0) := v0
  have v1 : VRep w F β a1 y := v1
  have v2 : VRep w F β a2 (eItem x) := v2
  obtain ⟨pb, s, k', sz, hβ, rfl⟩ := v0.ptr_inv
  obtain ⟨lc, hlc, hob, hblk⟩ := hr.obj 0 _ h0
  rw [hβ] at hlc; cases hlc
  obtain ⟨rfl, cs, T, hcs, hsz2, hk0, hfit, _, hcell⟩ := hob
  have hb := (hblk pb rfl).2
  have hp5 : w.cell? ⟨pb, s + 5, none⟩ = some (.int .i64 lasts) := by
    have h1 := hcell 0 5 hne hk
    rw [hl] at h1
    have h2 := (VRep.p_inv h1).1
    have : s + 0 * k + 5 = s + 5 := by omega
    rw [this] at h2
    have h3 : s + 5 < cs.size := by
      have : 1 * k ≤ es.length * k := Nat.mul_le_mul_right _ hne
      omega
    simp only [World.cell?]
    rw [hcs]
    simp only [Array.getD, h3, dif_pos] at h2
    have h4 : cs[s + 5] = Value.int IntKind.i64 lasts := h2
    simp [h3, h4]
  obtain ⟨a, cap, rfl, hheld⟩ := its_held (elems_at hr v1 hs hp)
  obtain ⟨us, rfl, hus, hu⟩ := VRep.agg_inv v2
  have hus : us = #[.int .i64 x.Kind, .int .i64 x.From, .int .i64 x.To, .string ⟨⟨x.Grand⟩⟩, .string ⟨⟨x.Place⟩⟩, .string ⟨⟨x.Who⟩⟩, .int .i64 x.Deposit] := by
    obtain ⟨l⟩ := us
    match l, hus, hu with
    | [u0, u1, u2, u3, u4, u5, u6], _, hu =>
      have e0 : u0 = .int .i64 x.Kind := (VRep.p_inv (hu 0 (Nat.le_of_ble_eq_true rfl))).1
      have e1 : u1 = .int .i64 x.From := (VRep.p_inv (hu 1 (Nat.le_of_ble_eq_true rfl))).1
      have e2 : u2 = .int .i64 x.To := (VRep.p_inv (hu 2 (Nat.le_of_ble_eq_true rfl))).1
      have e3 : u3 = .string ⟨⟨x.Grand⟩⟩ := (VRep.p_inv (hu 3 (Nat.le_of_ble_eq_true rfl))).1
      have e4 : u4 = .string ⟨⟨x.Place⟩⟩ := (VRep.p_inv (hu 4 (Nat.le_of_ble_eq_true rfl))).1
      have e5 : u5 = .string ⟨⟨x.Who⟩⟩ := (VRep.p_inv (hu 5 (Nat.le_of_ble_eq_true rfl))).1
      have e6 : u6 = .int .i64 x.Deposit := (VRep.p_inv (hu 6 (Nat.le_of_ble_eq_true rfl))).1
      rw [e0, e1, e2, e3, e4, e5, e6]
  subst hus
  have e0 : s + 0 * k + 0 = s := by omega
  rw [e0]
  refine ((callsIn_wide (n := 6)).1 (tune_in Fence.wide 6 trivial trivial trivial rfl (Nat.le_refl _) pb s lasts a l.length cap (itsL l) x.Kind x.From x.To x.Deposit ⟨⟨x.Grand⟩⟩ ⟨⟨x.Place⟩⟩ ⟨⟨x.Who⟩⟩ hlen w hb hp5 hheld)).mono ?_
  rintro e W' ⟨rfl, hB⟩
  obtain ⟨r1, r2⟩ := hr.wider hB.os hB.tape hB.output hB.size hB.block
  exact ⟨_, F, β, rfl, r1, by rw [backS_eq]; exact .fr (.p rfl), r2⟩
end
section
open Go Go.Proofs Go.RowKit
section
variable {P : Program} {w : World} {F : Nat → Prop} {β : Beta}
theorem RowAt.other {w' : World} {b p k : Nat} {es : List V} (h : RowAt w F β b p k es) (hb : w'.heap[b]? = w.heap[b]?) (hF : ∀ c, F c → w'.heap[c]? = w.heap[c]?) : RowAt w' F β b p k es :=
  ⟨h.1, fun i j hi hj => by
    obtain ⟨u, h1, h2⟩ := h.2 i j hi hj
    exact ⟨u, (cell_of_heap hb).trans h1, h2.mono (fun _ h => h) hF (fun _ _ h => h)⟩⟩
theorem copy_raw {t t2 ty e : TypeId} {k : Nat} (ht : P.underlying t = some (.slice e)) (hsize : ∀ w : World, (sizeOf e).run P w = .ok k w) (hk0 : 0 < k) {a : Option Addr} {ly cy : Nat} {news : List V} {m : Nat} (hnl : news.length = m) (hy : SlAt w F β k (.slice a m cy) news)
    {b p len cap : Nat} {cs : Array Value} {T : TypeId} (hcs : w.heap[b]? = some (.cells cs T (0, 0))) (hm : Nat.min ly len = m) (hfit : p + m * k ≤ cs.size) :
    ∃ cs2 : List Value, cs2.length = m * k ∧ (∀ i j, i < m → j < k → VRep w F β (cs2.getD (i * k + j) Go.undef) (nth (nth news i).flat j)) ∧
      (Builtin.copy_ #[t, t2] ty #[.slice (some ⟨b, p, none⟩) len cap, .slice a ly cy]).run P w = .ok (goInt m) (w.setRow b (splice cs p cs2)) := by
  obtain ⟨cs2, hc1, hc2, hc3, hc4⟩ := hy.cells (P := P)
  rw [hnl] at hc1 hc2 hc3 hc4
  have hc1' : (Builtin.firstCells k m (.slice a ly cy)).run P w = .ok cs2.toArray w := by
    have e : Builtin.firstCells k m (.slice a ly cy) = Builtin.firstCells k m (.slice a m cy) := by cases a <;> rfl
    rw [e]; exact hc1
  have hone : ∀ v ∈ cs2, v.oneCell' = true := by
    intro v hv'
    obtain ⟨q, hq, rfl⟩ := List.getElem_of_mem hv'
    rw [hc2] at hq
    have hqk : q % k < k := Nat.mod_lt _ hk0
    have h9 : q / k < m := (Nat.div_lt_iff_lt_mul hk0).2 hq
    have h10 := hc4 (q / k) (q % k) h9 hqk
    have h11 : q / k * k + q % k = q := by have := Nat.div_add_mod q k; rw [Nat.mul_comm] at this; omega
    rw [h11] at h10
    have h12 : one (nth (nth news (q / k)).flat (q % k)) = true := by
      obtain ⟨h13, h14⟩ := hc3 _ h9
      exact h14 _ (nth_mem (by rw [h13]; exact hqk))
    have := oneCell_of_vrep h10 h12
    simpa [List.getD, List.getElem?_eq_getElem (show q < cs2.length by omega)] using this
  have hst := run_storeCells_at P b p T cs2 0 cs w hcs (by rw [hc2]; omega) hone
  have hspl : (cs.toList.take (p + 0) ++ cs2 ++ cs.toList.drop (p + 0 + cs2.length)).toArray = splice cs p cs2 := by simp [splice]
  rw [hspl] at hst
  refine ⟨cs2, hc2, hc4, ?_⟩
  have hl : (Builtin.lenOf (.slice a ly cy)).run P w = .ok ly w := rfl
  simp only [Builtin.copy_]
  simp [run_underlying ht, hl, hsize, hm, hc1', hst]
theorem setRow_setRow (w : World) (b : Nat) (A B : Array Value) : (w.setRow b A).setRow b B = w.setRow b B := by
  unfold World.setRow
  congr 1
  apply Array.ext_getElem?
  intro i
  simp only [Array.getElem?_modify]
  by_cases h : b = i
  · subst h
    simp only [if_true]
    cases w.heap[b]? with
    | none => rfl
    | some o => cases o <;> rfl
  · simp [h]
theorem setRow_heap {w : World} {b : Nat} {cs A : Array Value} {T : TypeId} (h : w.heap[b]? = some (.cells cs T (0, 0))) : (w.setRow b A).heap[b]? = some (.cells A T (0, 0)) := by
  simp only [World.setRow, Array.getElem?_modify, if_true, h, Option.map_some]
theorem alloc_setRow (w : World) (A B : Array Value) (T : TypeId) : (w.alloc (.cells A T)).setRow w.heap.size B = w.alloc (.cells B T) := by
  unfold World.setRow World.alloc
  congr 1
  apply Array.ext_getElem?
  intro i
  simp only [Array.getElem?_modify, Array.getElem?_push]
  by_cases h : w.heap.size = i
  · subst h; simp
  · have h' : ¬ i = w.heap.size := fun e => h e.symm
    simp [h, h']
end
theorem insL_length {α : Type} (l : List α) (i : Nat) (x : α) (h : i ≤ l.length) : (insL l i x).length = l.length + 1 := by
  simp [insL]; omega
theorem ix_insL {l : List Item} {i q : Nat} {x : Item} (h : i ≤ l.length) (hq : q < l.length + 1) : ix (insL l i x) q = if q < i then ix l q else if q = i then x else ix l (q - 1) := by
  unfold ix insL
  simp only [List.getD, List.getElem?_append, List.length_take, Nat.min_eq_left h, List.getElem?_take, List.getElem?_cons, List.getElem?_drop]
  by_cases h1 : q < i
  · simp [h1]
  · by_cases h2 : q = i
    · subst h2; simp
    · have h3 : ¬ q - i = 0 := by omega
      have h4 : i + (q - i - 1) = q - 1 := by omega
      simp [h1, h2, h3, h4]
theorem upd3 {A B C : AObj} : upd (upd (oget [some A, some B]) 0 none) 2 (some C) = oget [none, some B, some C] := by
  funext m
  match m with
  | 0 => rfl
  | 1 => rfl
  | 2 => rfl
  | n + 3 => simp [upd, oget, List.getD]
theorem FnL_insert {l : List Item} {i : Int} {v : List Item} (h1 : inC i l.length = true) (h2 : decide (v.length = 1) = true) (h3 : room 80 (l.length + 1) = true) :
    FnL Tryz.prog 153 [.own 0 0 l.length, vi i, .own 1 0 v.length] [some (.row 7 (List.map eItem l)), some (.row 7 (List.map eItem v))] (.own 2 0 (insL l i.toNat (ix v 0)).length) [none, some (.row 7 (List.map eItem v)), some (.row 7 (List.map eItem (insL l i.toNat (ix v 0))))] := by
  have hv1 := of_decide_eq_true h2
  obtain ⟨x, rfl⟩ : ∃ x, v = [x] := List.length_eq_one_iff.1 hv1
  have hi0 := inC_to h1
  have hin : i.toNat ≤ l.length := of_decide_eq_true (inC_le h1)
  obtain ⟨j, hj⟩ : ∃ j, j = i.toNat := ⟨_, rfl⟩
  rw [← hj] at hi0 hin ⊢
  have hroom : (l.length + 1) * 80 ≤ 140737488355328 ∧ l.length + 1 ≤ 9223372036854775807 := by
    unfold room at h3; simpa using h3
  refine ⟨Tryz.call153, by simp, fun q hq => ?_, fun w F β args hr hc => ?_⟩
  · match q, hq with
    | 0, _ => simp [oget]
    | 1, _ => simp [oget]
  obtain ⟨hsz, hv⟩ := hc
  have v0 := hv 0 (by simp)
  have v1 := hv 1 (by simp)
  have v2 := hv 2 (by simp)
  obtain ⟨a0, a1, a2, rfl⟩ : ∃ a0 a1 a2, args = #[a0, a1, a2] := by
    obtain ⟨l⟩ := args
    match l, hsz with
    | [a, b, c], _ => exact ⟨a, b, c, rfl⟩
  have v0 : VRep w F β a0 (.own 0 0 l.length) := v0
  have v1 : VRep w F β a1 (vi i) := v1
  have v2 : VRep w F β a2 (.own 1 0 1) := v2
  rw [(VRep.p_inv v1).1]
  have he : i = (j : Int) := hi0
  subst he
  have g0 : oget [some (AObj.row 7 (List.map eItem l)), some (AObj.row 7 (List.map eItem [x]))] 0 = some (.row 7 (List.map eItem l)) := rfl
  have g1 : oget [some (AObj.row 7 (List.map eItem l)), some (AObj.row 7 (List.map eItem [x]))] 1 = some (.row 7 (List.map eItem [x])) := rfl
  have hel : elemInfo Tryz.prog 95 = some (7, 80, .agg [vi 0, vi 0, vi 0, vt [], vt [], vt [], vi 0]) := by kernel_rfl
  obtain ⟨e, inf, zv, k1, k2, k3, k4, k5, k6, k7, k8⟩ := elemInfo_spec hel
  have hsize : ∀ w : World, (sizeOf e).run Tryz.prog w = .ok 7 w := fun w => by simp [sizeOf, typeInfo, k2, k3]
  have he28 : e = 37 := by
    have : Tryz.prog.underlying 95 = some (.slice 37) := Tryz.underlying95
    rw [k1] at this; cases this; rfl
  subst he28
  have hy : elemsOf 7 (oget [some (AObj.row 7 (List.map eItem l)), some (AObj.row 7 (List.map eItem [x]))]) (.own 1 0 1) = some (List.map eItem [x], [1], true) := rfl
  have hxl : (List.map eItem [x]).length = 1 := rfl
  by_cases hend : j = l.length
  ·
    have hins : insL l j x = l ++ [x] := by unfold insL; rw [hend]; simp
    have hsem : SemOK Tryz.prog (Builtin.append_ #[95, 95] 95 #[a0, a2]) w F β (oget [some (AObj.row 7 (List.map eItem l)), some (AObj.row 7 (List.map eItem [x]))]) (.own 2 0 (l.length + 1)) (oget [none, some (AObj.row 7 (List.map eItem [x])), some (.row 7 (List.map eItem (l ++ [x])))]) (fun q => 3 ≤ q) := by
      rcases v0.own_inv with ⟨b, s, k', sz, cap, hβ, hlc, hcap, had⟩ | ⟨hβ, _, hl0, a, had⟩
      · have := snd_app_own (P := Tryz.prog) (nn := 2) (ty := 95) (u := 95) hr (by simp) hel (.inl ⟨_, k1⟩) g0 v0 (by simp) v2 hy (by simpa using hroom.1) (by simpa using hroom.2)
        obtain ⟨rv, w', F', β', q1, q2, q3, q4⟩ := this
        refine ⟨rv, w', F', β', q1, ?_, ?_, ?_⟩
        · have := q2.av_mono (Av' := fun q => 3 ≤ q) (fun q hq => ⟨by simp; omega, by omega⟩)
          rw [upd3] at this
          simpa using this
        · simpa using q3
        · rw [upd3] at q4; simpa using q4
      · have hl1 : l = [] := List.eq_nil_of_length_eq_zero hl0
        subst hl1
        have := snd_app_emp (P := Tryz.prog) (nn := 2) (ty := 95) (u := 95) (a := a) hr (by simp) hel (.inl ⟨_, k1⟩) v2 hy (by simp) (by simp)
        rw [← had] at this
        obtain ⟨rv, w', F', β', q1, q2, q3, q4⟩ := this
        obtain ⟨d1, d2⟩ := q2.drop 0
        have hu : upd (upd (oget [some (AObj.row 7 (List.map eItem [])), some (AObj.row 7 (List.map eItem [x]))]) 2 (some (.row 7 (List.map eItem [x])))) 0 none = oget [none, some (AObj.row 7 (List.map eItem [x])), some (.row 7 (List.map eItem ([] ++ [x])))] := by
          funext m
          match m with
          | 0 => rfl
          | 1 => rfl
          | 2 => rfl
          | n + 3 => simp [upd, oget, List.getD]
        rw [hu] at d1 d2
        exact ⟨rv, w', F', β', q1, d1.av_mono (fun q hq => ⟨by simp; omega, by omega⟩), by simpa using q3, q4.trans d2⟩
    obtain ⟨rv, w', F', β', q1, q2, q3, q4⟩ := hsem
    have hlen2 : (insL l j x).length = l.length + 1 := by rw [hins]; simp
    have hixv : ix [x] 0 = x := rfl
    rw [hixv, hins]
    have hlen3 : (l ++ [x]).length = l.length + 1 := by simp
    rw [hlen3]
    obtain ⟨n0, c0, ad0, hA0, hnc0, hnil0⟩ : ∃ (n c : Nat) (a : Option Addr), a0 = .slice a n c ∧ n ≤ c ∧ (a = none → n = 0) := by
      rcases v0.own_inv with ⟨b, s, k', sz, cap, hβ, hlc, hcap, rfl⟩ | ⟨hβ, _, hl0, a, rfl⟩
      · exact ⟨_, _, _, rfl, hlc, fun h => by cases h⟩
      · exact ⟨_, _, _, rfl, Nat.le_refl _, fun _ => rfl⟩
    have hn0 : n0 = l.length := by
      rcases v0.own_inv with ⟨b, s, k', sz, cap, hβ, hlc, hcap, hh⟩ | ⟨hβ, _, hl0, a, hh⟩
      · rw [hA0] at hh; cases hh; rfl
      · rw [hA0] at hh; cases hh; exact hl0.symm
    obtain ⟨vad, vc, hA2⟩ : ∃ a c, a2 = .slice a 1 c := by
      rcases v2.own_inv with ⟨b, s, k', sz, cap, hβ, hlc, hcap, rfl⟩ | ⟨hβ, _, hl0, a, rfl⟩
      · exact ⟨_, _, rfl⟩
      · cases hl0
    subst hA0 hA2 hn0
    rw [hend]
    refine (ins_end ad0 vad _ c0 vc w w' rv q1 hnc0 hnil0).mono ?_
    rintro e W' ⟨rfl, rfl⟩
    exact ⟨_, F', β', rfl, by simpa using q2, q3, q4⟩
  · have hjn : j < l.length := by omega
    have hixv : ix [x] 0 = x := rfl
    rw [hixv]
    have hlen2 : (insL l j x).length = l.length + 1 := insL_length l j x hin
    have hlen3 : (List.map eItem (insL l j x)).length = l.length + 1 := by simp [hlen2]
    have hnth : ∀ q, q < l.length + 1 → nth (List.map eItem (insL l j x)) q = if q < j then nth (List.map eItem l) q else if q = j then eItem x else nth (List.map eItem l) (q - 1) := fun q hq => by
      rw [nth_mapi (by omega), ix_insL hin hq]
      by_cases c1 : q < j
      · rw [if_pos c1, if_pos c1, nth_mapi (by omega)]
      · rw [if_neg c1, if_neg c1]
        by_cases c2 : q = j
        · rw [if_pos c2, if_pos c2]
        · rw [if_neg c2, if_neg c2, nth_mapi (by omega)]
    have hokI : ∀ y : Item, okE 7 (eItem y) := fun y => ⟨rfl, by intro c hc; simp [eItem, V.flat] at hc; rcases hc with rfl | rfl | rfl | rfl | rfl | rfl | rfl <;> rfl⟩
    have hok : ∀ q, q < (List.map eItem (insL l j x)).length → okE 7 (nth (List.map eItem (insL l j x)) q) := fun q hq => by
      rw [nth_mapi (by simpa using hq)]; exact hokI _
    rcases v0.own_inv with ⟨b, s, k', sz, cap, hβ, hlc, hcap, rfl⟩ | ⟨hβ, _, hl0, a, had⟩
    case inr => omega
    rcases v2.own_inv with ⟨vb, vs, k'', sz', vc, hβ1, hlc1, hcap1, rfl⟩ | ⟨hβ1, _, hl0, a, had⟩
    case inr => cases hl0
    obtain ⟨lc, hlo, hob, hblk⟩ := hr.obj 0 _ g0
    rw [hβ] at hlo; cases hlo
    obtain ⟨lc1, hlo1, hob1, hblk1⟩ := hr.obj 1 _ g1
    rw [hβ1] at hlo1; cases hlo1
    have hrow := hob.row_at
    have hrow1 := hob1.row_at
    obtain ⟨e7, cs, T, hcs, hszc, _, hfit, _, hcell⟩ := hob
    obtain ⟨e7', cs1, T1, hcs1, hszc1, _, hfit1, _, hcell1⟩ := hob1
    subst e7 e7'
    have hFb := hblk b rfl
    have hFv := hblk1 vb rfl
    have hbv : vb ≠ b := fun e => by
      have := hr.sep 1 0 _ _ _ _ b g1 g0 hβ1 hβ (by simp [Loc.block, e]) rfl
      cases this
    simp only [Nat.zero_mul, Nat.add_zero, Nat.zero_add] at hcap hcap1 ⊢
    have hel2 : (List.map eItem l).length = l.length := by simp
    rw [hel2] at hfit
    have hsub := hrow.sub j (l.length - j) (by rw [hel2]; omega)
    have hsub0 := hrow.sub 0 j (by rw [hel2]; omega)
    have hslen : (((List.map eItem l).drop j).take (l.length - j)).length = l.length - j := by simp
    have hslen0 : (((List.map eItem l).drop 0).take j).length = j := by simp; omega
    have hsn : ∀ q, q < l.length - j → nth (((List.map eItem l).drop j).take (l.length - j)) q = nth (List.map eItem l) (j + q) := fun q hq => nth_drop_take _ _ _ _ hq
    have hsn0 : ∀ q, q < j → nth (((List.map eItem l).drop 0).take j) q = nth (List.map eItem l) q := fun q hq => by rw [nth_drop_take _ _ _ _ hq, Nat.zero_add]
    obtain ⟨hrd, hed⟩ := hr.drew
    by_cases hroom1 : l.length + 1 ≤ cap
    ·
      have hfs : s + (l.length + 1) * 7 ≤ sz := by
        have : (l.length + 1) * 7 ≤ cap * 7 := Nat.mul_le_mul_right _ hroom1
        omega
      obtain ⟨c2, l2, u2, r2⟩ := copy_raw (P := Tryz.prog) (w := w.drew) (t2 := 95) (ty := 3) k1 hsize (by decide) (a := some ⟨b, s + j * 7, none⟩) (ly := l.length + 1 - j) (cy := cap - j) (m := l.length - j) hslen
        ⟨_, _, by rw [hslen], .inr ⟨b, s + j * 7, rfl, by decide, hsub.other rfl (fun _ _ => rfl)⟩⟩ (b := b) (p := s + (j + 1) * 7) (len := l.length + 1 - (j + 1)) (cap := cap - (j + 1)) (cs := cs) (T := T) hcs (by simp only [Nat.min_def]; split <;> omega) (by omega)
      have hcsA : (w.drew.setRow b (splice cs (s + (j + 1) * 7) c2)).heap[b]? = some (.cells (splice cs (s + (j + 1) * 7) c2) T (0, 0)) := setRow_heap hcs
      have hoA : ∀ c, c ≠ b → (w.drew.setRow b (splice cs (s + (j + 1) * 7) c2)).heap[c]? = w.heap[c]? := fun c hc => setRow_other w.drew b c _ hc
      have hFA : ∀ c, F c → (w.drew.setRow b (splice cs (s + (j + 1) * 7) c2)).heap[c]? = w.heap[c]? := fun c hc => hoA c (fun e => hFb.1 (e ▸ hc))
      have hszA : (splice cs (s + (j + 1) * 7) c2).size = sz := (splice_size _ _ _ (by omega)).trans hszc
      obtain ⟨c3, l3, u3, r3⟩ := copy_raw (P := Tryz.prog) (w := w.drew.setRow b (splice cs (s + (j + 1) * 7) c2)) (F := F) (β := β) (t2 := 95) (ty := 3) k1 hsize (by decide) (a := some ⟨vb, vs, none⟩) (ly := 1) (cy := vc) (m := 1) hxl
        ⟨_, _, rfl, .inr ⟨vb, vs, rfl, by decide, hrow1.other (hoA vb hbv) hFA⟩⟩ (b := b) (p := s + j * 7) (len := l.length + 1 - j) (cap := cap - j) (T := T) hcsA (by simp only [Nat.min_def]; split <;> omega) (by rw [hszA]; omega)
      have hov : ∀ lb cb, (callFunc 213 #[.slice (some ⟨vb, vs, none⟩) 1 vc, .slice (some ⟨b, s + (j + 1) * 7, none⟩) lb cb]).run Tryz.prog w = .ok (.value (.bool false)) w := fun lb cb => by
        rw [run_callFunc_extern Tryz.func213 (by kernel_rfl) (by kernel_rfl) (by kernel_rfl) (e := Extern.SlicesOverlaps.overlaps #[95, 95] #[4]) (by kernel_rfl),
          Lib.run_overlaps_apart w 95 4 37 k1 7 hsize ⟨vb, vs, none⟩ ⟨b, s + (j + 1) * 7, none⟩ 1 vc lb cb hbv T1 T cs1.size cs.size (by simp [World.shape?, hcs1]) (by simp [World.shape?, hcs]) (by omega) (by simp [World.frozen?, hcs1]) (by simp [World.frozen?, hcs1])]
        rfl
      refine (ins_room b s vb vs l.length cap j vc w _ _ hjn hroom1 hroom.2 hov r2 r3).mono ?_
      rintro e W' ⟨rfl, rfl⟩
      rw [setRow_setRow]
      have hszB : (splice (splice cs (s + (j + 1) * 7) c2) (s + j * 7) c3).size = sz := (splice_size _ _ _ (by rw [hszA]; omega)).trans hszA
      have hG := hrd.grow_row (nn := 2) (by simp) g0 hβ hcs _ hszB s (List.map eItem (insL l j x)) (by decide) (by rw [hlen3]; exact hfs) hok (fun q jj hq hjj => by
        rw [hlen3] at hq
        rw [splice_getD _ _ _ (by rw [hszA]; omega), splice_getD _ _ _ (by omega), hnth q hq, l2, l3]
        by_cases c1 : q < j
        · rw [if_pos (by omega), if_pos (by omega), if_pos c1]
          exact hed.vrep hr (hcell q jj (by rw [hel2]; omega) hjj)
        · by_cases c2' : q = j
          · rw [if_neg (by omega), if_pos (by omega), if_neg c1, if_pos c2']
            have := u3 0 jj (by decide) hjj
            rw [show s + q * 7 + jj - (s + j * 7) = 0 * 7 + jj by omega]
            exact VRep.mono (w' := w.drew) (fun _ h => h) (fun c hc => (hFA c hc).symm) (fun _ _ h => h) this
          · rw [if_neg (by omega), if_neg (by omega), if_neg (by omega), if_pos (by omega), if_neg c1, if_neg c2']
            have := u2 (q - 1 - j) jj (by omega) hjj
            rw [hsn _ (by omega), show j + (q - 1 - j) = q - 1 by omega] at this
            rw [show s + q * 7 + jj - (s + (j + 1) * 7) = (q - 1 - j) * 7 + jj by omega]
            exact this)
      rw [upd3] at hG
      refine ⟨_, F, _, rfl, hG.1.av_mono (fun q hq => ⟨by simp at hq ⊢; omega, by simp at hq; omega⟩), ?_, hed.trans hG.2⟩
      rw [hlen2]
      have := VRep.own (w := w.drew.setRow b (splice (splice cs (s + (j + 1) * 7) c2) (s + j * 7) c3)) (F := F) (β := upd β 2 (some (.at b s 7 sz))) (n := 2) (off := 0) (len := l.length + 1) (cap := cap) (upd_same _ _ _) hroom1 (by omega)
      simpa using this
    ·
      have hcapl : cap < l.length + 1 := by omega
      have hsl0 : SlAt w.drew F β 7 (.slice (some ⟨b, s, none⟩) j cap) (((List.map eItem l).drop 0).take j) :=
        ⟨_, _, by rw [hslen0], .inr ⟨b, s + 0 * 7, by simp, by decide, hsub0.other rfl (fun _ _ => rfl)⟩⟩
      obtain ⟨os, o1, o2, o3, o4⟩ := hsl0.cells (P := Tryz.prog)
      rw [hslen0] at o1 o2 o3 o4
      have hjk : j + (l.length + 1 - j) = l.length + 1 := by omega
      have hrz := Lib.run_append_grow_zeros w 95 3 95 37 inf zv .i64 .i64 k1 Tryz.underlying3 k2 k5 (some ⟨b, s, none⟩) j cap os (by rw [k3]; exact o1) (l.length + 1 - j) (by omega) (by omega) (by omega) (by have := hroom.2; omega) (by rw [k4]; have := hroom.1; omega) (by rw [k4, hjk]; exact growslice_fits hcapl hroom.1)
      rw [hjk] at hrz
      obtain ⟨G, hG⟩ : ∃ G, G = grownCap w (l.length + 1) cap 37 := ⟨_, rfl⟩
      have hGn : l.length + 1 ≤ G := by rw [hG]; exact grownCap_ge w _ _ _
      rw [← hG] at hrz
      obtain ⟨Z, hZ⟩ : ∃ Z, Z = Builtin.zeroCells zv.cells (l.length + 1 - j) ++ Builtin.zeroCells zv.cells (G - (l.length + 1)) := ⟨_, rfl⟩
      have hrow0 : os.toArray ++ Builtin.zeroCells zv.cells (l.length + 1 - j) ++ Builtin.zeroCells zv.cells (G - (l.length + 1)) = os.toArray ++ Z := by rw [hZ, Array.append_assoc]
      rw [hrow0] at hrz
      have hZs : j * 7 + Z.size = G * 7 := by
        rw [hZ, Array.size_append, size_zeroCells, size_zeroCells, k6]; omega
      have hRs : (os.toArray ++ Z).size = G * 7 := by rw [Array.size_append]; simp only [List.size_toArray, o2]; exact hZs
      have hvlt := hFv.2
      have hblt := hFb.2
      have hcsN : (w.drew.alloc (.cells (os.toArray ++ Z) 37)).heap[w.heap.size]? = some (.cells (os.toArray ++ Z) 37 (0, 0)) := heap_alloc_new w.drew _
      have hoN : ∀ c, c < w.heap.size → (w.drew.alloc (.cells (os.toArray ++ Z) 37)).heap[c]? = w.heap[c]? := fun c hc => heap_alloc_old w.drew _ hc
      obtain ⟨cA, lA, uA, rA⟩ := copy_raw (P := Tryz.prog) (w := w.drew.alloc (.cells (os.toArray ++ Z) 37)) (F := F) (β := β) (t2 := 95) (ty := 3) k1 hsize (by decide) (a := some ⟨vb, vs, none⟩) (ly := 1) (cy := vc) (m := 1) hxl
        ⟨_, _, rfl, .inr ⟨vb, vs, rfl, by decide, hrow1.other (hoN vb hvlt) (fun c hc => hoN c (hr.falloc c hc))⟩⟩ (b := w.heap.size) (p := j * 7) (len := l.length + 1 - j) (cap := G - j) (T := 37) hcsN (by simp only [Nat.min_def]; split <;> omega) (by rw [hRs]; omega)
      have hW2 : (w.drew.alloc (.cells (os.toArray ++ Z) 37)).setRow w.heap.size (splice (os.toArray ++ Z) (j * 7) cA) = w.drew.alloc (.cells (splice (os.toArray ++ Z) (j * 7) cA) 37) := alloc_setRow w.drew _ _ 37
      rw [hW2] at rA
      have hAs : (splice (os.toArray ++ Z) (j * 7) cA).size = G * 7 := (splice_size _ _ _ (by rw [hRs]; omega)).trans hRs
      have hcs2 : (w.drew.alloc (.cells (splice (os.toArray ++ Z) (j * 7) cA) 37)).drew.heap[w.heap.size]? = some (.cells (splice (os.toArray ++ Z) (j * 7) cA) 37 (0, 0)) := heap_alloc_new w.drew _
      have ho2 : ∀ c, c < w.heap.size → (w.drew.alloc (.cells (splice (os.toArray ++ Z) (j * 7) cA) 37)).drew.heap[c]? = w.heap[c]? := fun c hc => heap_alloc_old w.drew _ hc
      obtain ⟨cB, lB, uB, rB⟩ := copy_raw (P := Tryz.prog) (w := (w.drew.alloc (.cells (splice (os.toArray ++ Z) (j * 7) cA) 37)).drew) (F := F) (β := β) (t2 := 95) (ty := 3) k1 hsize (by decide) (a := some ⟨b, s + j * 7, none⟩) (ly := l.length - j) (cy := cap - j) (m := l.length - j) hslen
        ⟨_, _, by rw [hslen], .inr ⟨b, s + j * 7, rfl, by decide, hsub.other (ho2 b hblt) (fun c hc => ho2 c (hr.falloc c hc))⟩⟩ (b := w.heap.size) (p := (j + 1) * 7) (len := l.length + 1 - (j + 1)) (cap := G - (j + 1)) (T := 37) hcs2 (by simp only [Nat.min_def]; split <;> omega) (by rw [hAs]; omega)
      have hW3 : (w.drew.alloc (.cells (splice (os.toArray ++ Z) (j * 7) cA) 37)).drew.setRow w.heap.size (splice (splice (os.toArray ++ Z) (j * 7) cA) ((j + 1) * 7) cB) = w.drew.drew.alloc (.cells (splice (splice (os.toArray ++ Z) (j * 7) cA) ((j + 1) * 7) cB) 37) := alloc_setRow w.drew.drew _ _ 37
      rw [hW3] at rB
      have hBs : (splice (splice (os.toArray ++ Z) (j * 7) cA) ((j + 1) * 7) cB).size = G * 7 := (splice_size _ _ _ (by rw [hAs]; omega)).trans hAs
      have hni : (l.length : Int) + 1 - (j : Int) = ((l.length + 1 - j : Nat) : Int) := by omega
      refine (ins_grow b s vb vs l.length cap j vc w.heap.size G w _ _ _ hjn hcapl hlc hGn hroom.2 (by rw [hni]; exact hrz) rA rB).mono ?_
      rintro e W' ⟨rfl, rfl⟩
      obtain ⟨hrd2, hed2⟩ := hrd.drew
      have hFw : ∀ c, F c → c < w.heap.size := hr.falloc
      have hR := hrd2.alloc_row (nn := 2) (by simp) (splice (splice (os.toArray ++ Z) (j * 7) cA) ((j + 1) * 7) cB) 37 7 (List.map eItem (insL l j x)) (by decide) (by rw [hlen3, hBs]; omega) hok (fun q jj hq hjj => by
        rw [hlen3] at hq
        rw [splice_getD _ _ _ (by rw [hAs]; omega), splice_getD _ _ _ (by rw [hRs]; omega), hnth q hq, lA, lB]
        by_cases c1 : q < j
        · rw [if_pos (by omega), if_pos (by omega), if_pos c1]
          have := o4 q jj c1 hjj
          rw [hsn0 q c1] at this
          rw [getD_toArray_append os Z (q * 7 + jj) (by rw [o2]; omega)]
          exact hed2.vrep hrd this
        · by_cases c2' : q = j
          · rw [if_pos (by omega), if_neg (by omega), if_pos (by omega), if_neg c1, if_pos c2']
            have := uA 0 jj (by decide) hjj
            rw [show q * 7 + jj - j * 7 = 0 * 7 + jj by omega]
            exact VRep.mono (w' := w.drew.drew) (fun _ h => h) (fun c hc => (hoN c (hFw c hc)).symm) (fun _ _ h => h) this
          · rw [if_neg (by omega), if_pos (by omega), if_neg c1, if_neg c2']
            have := uB (q - 1 - j) jj (by omega) hjj
            rw [hsn _ (by omega), show j + (q - 1 - j) = q - 1 by omega] at this
            rw [show q * 7 + jj - (j + 1) * 7 = (q - 1 - j) * 7 + jj by omega]
            exact VRep.mono (w' := w.drew.drew) (fun _ h => h) (fun c hc => (ho2 c (hFw c hc)).symm) (fun _ _ h => h) this)
      obtain ⟨d1, d2⟩ := hR.1.drop 0
      have hu : upd (upd (oget [some (AObj.row 7 (List.map eItem l)), some (AObj.row 7 (List.map eItem [x]))]) 2 (some (.row 7 (List.map eItem (insL l j x))))) 0 none = oget [none, some (AObj.row 7 (List.map eItem [x])), some (.row 7 (List.map eItem (insL l j x)))] := by
        funext m
        match m with
        | 0 => rfl
        | 1 => rfl
        | 2 => rfl
        | n + 3 => simp [upd, oget, List.getD]
      rw [hu] at d1 d2
      refine ⟨_, F, _, rfl, d1.av_mono (fun q hq => ⟨by simp at hq ⊢; omega, by simp at hq; omega⟩), ?_, hed.trans (hed2.trans (hR.2.trans d2))⟩
      rw [hlen2]
      have := VRep.own (w := w.drew.drew.alloc (.cells (splice (splice (os.toArray ++ Z) (j * 7) cA) ((j + 1) * 7) cB) 37)) (F := F) (β := upd β 2 (some (.at w.drew.drew.heap.size 0 7 (splice (splice (os.toArray ++ Z) (j * 7) cA) ((j + 1) * 7) cB).size))) (n := 2) (off := 0) (len := l.length + 1) (cap := G) (upd_same _ _ _) hGn (by rw [hBs]; omega)
      simpa using this
end
section
open Go Go.Sort Go.Proofs Go.Shelf
theorem sortIns_perm (x : Int) : ∀ l : List Int, (sortIns x l).Perm (x :: l)
  | [] => .refl _
  | y :: l => by
    unfold sortIns
    cases decide (x ≤ y) with
    | true => exact .refl _
    | false => exact ((sortIns_perm x l).cons y).trans (.swap x y l)
theorem sortI_perm : ∀ l : List Int, (sortI l).Perm l
  | [] => .refl _
  | x :: l => (sortIns_perm x _).trans ((sortI_perm l).cons x)
theorem sortIns_pw {x : Int} : ∀ {l : List Int}, l.Pairwise (· ≤ ·) → (sortIns x l).Pairwise (· ≤ ·)
  | [], _ => by simp [sortIns]
  | y :: l, h => by
    unfold sortIns
    obtain ⟨h1, h2⟩ := List.pairwise_cons.1 h
    by_cases hx : x ≤ y
    · rw [decide_eq_true hx]
      refine List.pairwise_cons.2 ⟨fun z hz => ?_, h⟩
      rcases List.mem_cons.1 hz with rfl | hz
      · exact hx
      · exact Int.le_trans hx (h1 z hz)
    · rw [decide_eq_false hx]
      refine List.pairwise_cons.2 ⟨fun z hz => ?_, sortIns_pw h2⟩
      rcases List.mem_cons.1 ((sortIns_perm x l).mem_iff.1 hz) with rfl | hz
      · omega
      · exact h1 z hz
theorem sortI_pw : ∀ l : List Int, (sortI l).Pairwise (· ≤ ·)
  | [] => .nil
  | _ :: l => sortIns_pw (sortI_pw l)
theorem sortI_ms (l : List Int) : sortI l = l.mergeSort fun x y => decide (x ≤ y) :=
  ((sortI_perm l).trans (List.mergeSort_perm l _).symm).eq_of_pairwise (le := fun x y => x ≤ y) (fun _ _ _ _ h1 h2 => Int.le_antisymm h1 h2) (sortI_pw l)
    ((List.pairwise_mergeSort (le := fun (x y : Int) => decide (x ≤ y)) (fun a b c h1 h2 => decide_eq_true (Int.le_trans (of_decide_eq_true h1) (of_decide_eq_true h2))) (fun a b => by rw [Bool.or_eq_true]; rcases Int.le_total a b with h | h <;> simp [h]) l).imp (fun h => of_decide_eq_true h))
theorem sortI_len (l : List Int) : (sortI l).length = l.length := (sortI_perm l).length_eq
theorem FnL_sortI {P : Program} {k : FuncId} (hE : ∀ args w, (callFunc k args).run P w = .ok (.enter k args) w)
    (C : ∀ (blk off cap : Nat) (zs : List Int) (w : World), Holds (Value.int .i64) w blk off zs.toArray → blk < w.heap.size → zs.length < 4611686018427387904 → Calls P k #[.slice (some ⟨blk, off, none⟩) zs.length cap] w fun e w' => e = .returned (.tuple #[]) ∧ ∃ n os, w' = grow (putRow (Value.int .i64) (Sort.ahead w n) blk off (zs.mergeSort fun x y => decide (x ≤ y)).toArray) os)
    (C0 : ∀ (p : Option Addr) (cap : Nat) (w : World), Calls P k #[.slice p 0 cap] w fun e w' => e = .returned (.tuple #[]) ∧ w' = w)
    {l : List Int} (hl : decide (l.length < 4611686018427387904) = true) : FnL P k [.own 0 0 l.length] [some (.row 1 (List.map vi l))] (.tup []) [some (.row 1 (List.map vi (sortI l)))] := by
  have hl := of_decide_eq_true hl
  refine ⟨hE, Nat.le_refl _, fun j hj => ?_, fun w F β args hr hc => ?_⟩
  · have : j = 0 := by simpa using hj
    subst this
    simp [oget]
  · obtain ⟨hs, hv⟩ := hc
    have hv0 := hv 0 (by simp)
    obtain ⟨v, rfl⟩ : ∃ v, args = #[v] := by
      have : args.toList.length = 1 := by simpa using hs
      obtain ⟨v, hv⟩ := List.length_eq_one_iff.1 this
      exact ⟨v, Array.ext' (by simpa using hv)⟩
    have hv1 : VRep w F β v (.own 0 0 l.length) := by simpa [nth] using hv0
    have h0 : oget [some (AObj.row 1 (List.map vi l))] 0 = some (.row 1 (List.map vi l)) := rfl
    rcases hv1.own_inv with ⟨b, s, k', sz, cap, hbeta, hlc, hcap, rfl⟩ | ⟨hbeta, _, hz, a, rfl⟩
    · obtain ⟨lc, hlo, hob, hblk⟩ := hr.obj 0 _ h0
      rw [hbeta] at hlo; cases hlo
      obtain ⟨hk, cs, T, hcs, hsz, hk0, hfit, hflat, hcell⟩ := hob
      subst hk
      have hb := hblk b rfl
      have hcs2 : s + l.length ≤ cs.size := by simpa [hsz] using hfit
      have hval : ∀ j, j < l.length → cs.getD (s + j) undef = (Value.int .i64) (l.getD j 0) := fun j hj => by
        have h1 := hcell j 0 (by simpa using hj) Nat.one_pos
        have h2 : nth (nth (List.map vi l) j).flat 0 = vi (l.getD j 0) := by
          have : nth (List.map vi l) j = vi (l.getD j 0) := by simp [nth, List.getD, hj]
          rw [this]; rfl
        rw [h2, Nat.mul_one, Nat.add_zero] at h1
        exact h1.p_inv.1
      have hH : Holds (Value.int .i64) w b (s + 0 * 1) l.toArray := fun j hj => by
        have hj' : j < l.length := by simpa using hj
        have hlt : s + j < cs.size := by omega
        refine ⟨?_, ?_⟩
        · have h1 := hval j hj'
          have h2 : cs.getD (s + j) undef = cs[s + j] := by simp [Array.getD, hlt]
          rw [h2] at h1
          simp only [World.cell?, Nat.zero_mul, Nat.add_zero]
          rw [hcs]
          simp [hlt, h1, hj']
        · simp [World.frozen?, hcs]
      refine (C b (s + 0 * 1) cap l w hH hb.2 hl).mono ?_
      intro e w' he
      rw [← sortI_ms l] at he
      obtain ⟨rfl, n, os, rfl⟩ := he
      have hlen : (sortI l).length = l.length := sortI_len l
      have hR := hr.write_row h0 hbeta hcs (Sort.putCells (Value.int .i64) s (sortI l).toArray cs) (by simp [Sort.putCells, hsz]) (List.map vi (sortI l)) Nat.one_pos (by simpa [hlen] using hfit)
        (fun i hi => by
          have hi' : i < (sortI l).length := by simpa using hi
          have : nth (List.map vi (sortI l)) i = vi ((sortI l).getD i 0) := by simp [nth, List.getD, hi']
          rw [this]; exact ⟨rfl, by simp [V.flat, vi, one]⟩)
        (fun i j hi hj => by
          have hi' : i < (sortI l).length := by simpa using hi
          have hj0 : j = 0 := by omega
          subst hj0
          have h3 : nth (List.map vi (sortI l)) i = vi ((sortI l).getD i 0) := by simp [nth, List.getD, hi']
          rw [h3, Nat.mul_one, Nat.add_zero]
          have hlt : s + i < cs.size := by omega
          have h4 : (Sort.putCells (Value.int .i64) s (sortI l).toArray cs).getD (s + i) undef = (Value.int .i64) ((sortI l).getD i 0) := by
            have hi3 : i < l.length := by omega
            simp [Sort.putCells, Array.getD, hlt, hlen, hi3, List.getD, hi']
          rw [h4]
          exact .fr (.p rfl))
      obtain ⟨r1, ev1⟩ := hR
      have hsame : ∀ c, c < (w.setRow b (Sort.putCells (Value.int .i64) s (sortI l).toArray cs)).heap.size → (grow (putRow (Value.int .i64) (Sort.ahead w n) b (s + 0 * 1) (sortI l).toArray) os).heap[c]? = (w.setRow b (Sort.putCells (Value.int .i64) s (sortI l).toArray cs)).heap[c]? := fun c hc => by
        have hc' : c < w.heap.size := by simpa [World.setRow] using hc
        simp only [grow, putRow, mapBlock, Sort.ahead, World.setRow, Nat.zero_mul, Nat.add_zero]
        rw [Array.getElem?_append_left (by simpa using hc'), Array.getElem?_modify, Array.getElem?_modify]
        by_cases e : b = c
        · subst e
          rw [if_pos rfl, if_pos rfl, hcs]
          rfl
        · rw [if_neg e, if_neg e]
      obtain ⟨r2, ev2⟩ := r1.wider (w' := grow (putRow (Value.int .i64) (Sort.ahead w n) b (s + 0 * 1) (sortI l).toArray) os) rfl rfl rfl (by simp [grow, putRow, mapBlock, Sort.ahead, World.setRow]) hsame
      have hog : upd (oget [some (AObj.row 1 (List.map vi l))]) 0 (some (.row 1 (List.map vi (sortI l)))) = oget [some (AObj.row 1 (List.map vi (sortI l)))] := (oget_set_upd (ob := [some (AObj.row 1 (List.map vi l))]) (.row 1 (List.map vi (sortI l))) (by simp)).symm
      rw [hog] at r2 ev2 ev1
      exact ⟨.tuple #[], F, β, rfl, r2, .tup rfl (fun j hj => by simp at hj), ev1.trans ev2⟩
    · have : l = [] := List.eq_nil_of_length_eq_zero hz
      subst this
      refine (C0 a 0 w).mono ?_
      rintro e w' ⟨rfl, rfl⟩
      exact ⟨.tuple #[], F, β, rfl, by simpa [sortI] using hr, .tup rfl (fun j hj => by simp at hj), by simpa [sortI] using Evolve.refl _ _ _ _⟩
def sortRenI : Go.Shelf.Ren := ⟨fun | 189 => 102 | 125 => 152 | 257 => 151 | 128 => 211 | 129 => 212 | 294 => 202 | 295 => 203 | 296 => 204 | 297 => 205 | 298 => 206 | 299 => 207 | 216 => 208 | 300 => 209 | 301 => 210 | 328 => 245 | 329 => 246 | 330 => 247 | 331 => 248 | 332 => 249 | 215 => 126 | 343 => 264 | n => n, fun | 28 => 74 | 3 => 3 | 46 => 146 | 0 => 0 | 51 => 272 | 53 => 243 | 4 => 4 | 183 => 265 | 182 => 264 | 131 => 83 | 5 => 5 | 9 => 9 | 218 => 300 | 222 => 304 | 228 => 323 | 229 => 324 | n => n, fun | n => n⟩
theorem sortLaysI : Go.Proofs.Lays.n189 Tryz.prog sortRenI := {
  mixed := by kernel_rfl
  f125 := Tryz.func152.trans (congrArg some (by kernel_rfl))
  f128 := Tryz.func211.trans (congrArg some (by kernel_rfl))
  f129 := Tryz.func212.trans (congrArg some (by kernel_rfl))
  f189 := Tryz.func102.trans (congrArg some (by kernel_rfl))
  f215 := Tryz.func126.trans (congrArg some (by kernel_rfl))
  f216 := Tryz.func208.trans (congrArg some (by kernel_rfl))
  f257 := Tryz.func151.trans (congrArg some (by kernel_rfl))
  f294 := Tryz.func202.trans (congrArg some (by kernel_rfl))
  f295 := Tryz.func203.trans (congrArg some (by kernel_rfl))
  f296 := Tryz.func204.trans (congrArg some (by kernel_rfl))
  f297 := Tryz.func205.trans (congrArg some (by kernel_rfl))
  f298 := Tryz.func206.trans (congrArg some (by kernel_rfl))
  f299 := Tryz.func207.trans (congrArg some (by kernel_rfl))
  f300 := Tryz.func209.trans (congrArg some (by kernel_rfl))
  f301 := Tryz.func210.trans (congrArg some (by kernel_rfl))
  f328 := Tryz.func245.trans (congrArg some (by kernel_rfl))
  f329 := Tryz.func246.trans (congrArg some (by kernel_rfl))
  f330 := Tryz.func247.trans (congrArg some (by kernel_rfl))
  f331 := Tryz.func248.trans (congrArg some (by kernel_rfl))
  f332 := Tryz.func249.trans (congrArg some (by kernel_rfl))
  f343 := Tryz.func264.trans (congrArg some (by kernel_rfl))
  t0 := Tryz.underlying0
  a0 := Tryz.isAgg0
  z0 := Tryz.sizeOf0
  v0 := Tryz.zeroValue0
  t3 := Tryz.underlying3
  a3 := Tryz.isAgg3
  z3 := Tryz.sizeOf3
  v3 := Tryz.zeroValue3
  t4 := Tryz.underlying4
  a4 := Tryz.isAgg4
  z4 := Tryz.sizeOf4
  v4 := Tryz.zeroValue4
  t5 := Tryz.underlying5
  a5 := Tryz.isAgg5
  z5 := Tryz.sizeOf5
  v5 := Tryz.zeroValue5
  t9 := Tryz.underlying9
  a9 := Tryz.isAgg9
  z9 := Tryz.sizeOf9
  v9 := Tryz.zeroValue9
  t28 := Tryz.underlying74
  a28 := Tryz.isAgg74
  z28 := Tryz.sizeOf74
  v28 := Tryz.zeroValue74
  t46 := Tryz.underlying146
  a46 := Tryz.isAgg146
  z46 := Tryz.sizeOf146
  v46 := Tryz.zeroValue146
  t51 := Tryz.underlying272
  a51 := Tryz.isAgg272
  z51 := Tryz.sizeOf272
  v51 := Tryz.zeroValue272
  t53 := Tryz.underlying243
  a53 := Tryz.isAgg243
  z53 := Tryz.sizeOf243
  v53 := Tryz.zeroValue243
  t131 := Tryz.underlying83
  a131 := Tryz.isAgg83
  z131 := Tryz.sizeOf83
  v131 := Tryz.zeroValue83
  t182 := Tryz.underlying264
  a182 := Tryz.isAgg264
  z182 := Tryz.sizeOf264
  v182 := Tryz.zeroValue264
  t183 := Tryz.underlying265
  a183 := Tryz.isAgg265
  z183 := Tryz.sizeOf265
  v183 := Tryz.zeroValue265
  t218 := Tryz.underlying300
  a218 := Tryz.isAgg300
  z218 := Tryz.sizeOf300
  v218 := Tryz.zeroValue300
  t222 := Tryz.underlying304
  a222 := Tryz.isAgg304
  z222 := Tryz.sizeOf304
  v222 := Tryz.zeroValue304
  t228 := Tryz.underlying323
  a228 := Tryz.isAgg323
  z228 := Tryz.sizeOf323
  v228 := Tryz.zeroValue323
  t229 := Tryz.underlying324
  a229 := Tryz.isAgg324
  z229 := Tryz.sizeOf324
  v229 := Tryz.zeroValue324 }
theorem sortI_call {l : List Int} (hl : decide (l.length < 4611686018427387904) = true) : FnL Tryz.prog 102 [.own 0 0 l.length] [some (.row 1 (List.map vi l))] (.tup []) [some (.row 1 (List.map vi (sortI l)))] :=
  FnL_sortI Tryz.call102 (fun blk off cap zs w hH hb hs => calls_of_every_depth fun D => AnyS.slices_Sort_int_alone sortLaysI D blk off cap zs w hH hb hs) (fun p cap w => Any.slices_Sort_int_none sortLaysI p cap w) hl
end
set_option maxHeartbeats 1000000 in
theorem agraffelaw09_Town_ok (n : Nat)  (r : Unit) (h : agraffelaw09_Town n  = some r) : FnL Tryz.prog 47 [] [] (.agg [eS 1 vt ([([115, 104, 111, 112] : Str), ([104, 97, 108, 108] : Str), ([104, 111, 109, 101] : Str)] : List Str), eS 1 vt ([([97, 110, 110] : Str), ([98, 111, 98] : Str)] : List Str), eS 4 eRoad ([(Road.mk ([115, 104, 111, 112] : Str) ([104, 97, 108, 108] : Str) 30 200), (Road.mk ([104, 97, 108, 108] : Str) ([104, 111, 109, 101] : Str) 20 100), (Road.mk ([115, 104, 111, 112] : Str) ([104, 111, 109, 101] : Str) 60 150)] : List Road), eS 3 eGrand ([(Grand.mk ([103] : Str) ([115, 104, 111, 112] : Str) 150), (Grand.mk ([117] : Str) ([104, 111, 109, 101] : Str) 100)] : List Grand), vi 10, vi 300]) [] := by
 dsimp only [agraffelaw09_Town] at h
 refine FnL.ofC [.cell 0 91] Tryz.call47 Tryz.func47 rfl .nil ?_ (hl := rfl)
 refine sko (.i 0 (.ptr 0 0 0) .n) [some (.row 6 [.agg [.emp, .emp, .emp, .emp, vi 0, vi 0]])] ?_
 refine sko .a [some (.row 6 [.agg [.own 1 0 3, .own 2 0 2, .own 3 0 3, .own 4 0 2, vi 10, vi 300]]), some (.row 1 [vt ([115, 104, 111, 112] : Str), vt ([104, 97, 108, 108] : Str), vt ([104, 111, 109, 101] : Str)]), some (.row 1 [vt ([97, 110, 110] : Str), vt ([98, 111, 98] : Str)]), some (.row 4 [.agg [vt ([115, 104, 111, 112] : Str), vt ([104, 97, 108, 108] : Str), vi 30, vi 200], .agg [vt ([104, 97, 108, 108] : Str), vt ([104, 111, 109, 101] : Str), vi 20, vi 100], .agg [vt ([115, 104, 111, 112] : Str), vt ([104, 111, 109, 101] : Str), vi 60, vi 150]]), some (.row 3 [.agg [vt ([103] : Str), vt ([115, 104, 111, 112] : Str), vi 150], .agg [vt ([117] : Str), vt ([104, 111, 109, 101] : Str), vi 100]])] ?_
 refine q3 ?_
 have h := si h
 subst h
 exact DoneC.ret (S' := ⟨[(0, .agg [eS 1 vt ([([115, 104, 111, 112] : Str), ([104, 97, 108, 108] : Str), ([104, 111, 109, 101] : Str)] : List Str), eS 1 vt ([([97, 110, 110] : Str), ([98, 111, 98] : Str)] : List Str), eS 4 eRoad ([(Road.mk ([115, 104, 111, 112] : Str) ([104, 97, 108, 108] : Str) 30 200), (Road.mk ([104, 97, 108, 108] : Str) ([104, 111, 109, 101] : Str) 20 100), (Road.mk ([115, 104, 111, 112] : Str) ([104, 111, 109, 101] : Str) 60 150)] : List Road), eS 3 eGrand ([(Grand.mk ([103] : Str) ([115, 104, 111, 112] : Str) 150), (Grand.mk ([117] : Str) ([104, 111, 109, 101] : Str) 100)] : List Grand), vi 10, vi 300])], []⟩) [.agg [.own 1 0 3, .own 2 0 2, .own 3 0 3, .own 4 0 2, vi 10, vi 300]] (Sees.trans (Sees.freeze 4 (fr' := [(0, .agg [.own 1 0 3, .own 2 0 2, .own 3 0 3, eS 3 eGrand ([(Grand.mk ([103] : Str) ([115, 104, 111, 112] : Str) 150), (Grand.mk ([117] : Str) ([104, 111, 109, 101] : Str) 100)] : List Grand), vi 10, vi 300])]) (ob' := [some (.row 6 [.agg [.own 1 0 3, .own 2 0 2, .own 3 0 3, .own 4 0 2, vi 10, vi 300]]), some (.row 1 [vt ([115, 104, 111, 112] : Str), vt ([104, 97, 108, 108] : Str), vt ([104, 111, 109, 101] : Str)]), some (.row 1 [vt ([97, 110, 110] : Str), vt ([98, 111, 98] : Str)]), some (.row 4 [.agg [vt ([115, 104, 111, 112] : Str), vt ([104, 97, 108, 108] : Str), vi 30, vi 200], .agg [vt ([104, 97, 108, 108] : Str), vt ([104, 111, 109, 101] : Str), vi 20, vi 100], .agg [vt ([115, 104, 111, 112] : Str), vt ([104, 111, 109, 101] : Str), vi 60, vi 150]]), none]) rfl (frzs_cons rfl (frzs_cons rfl frzs_nil)) (.cons (frz_agg (.cons (.refl _) (.cons (.refl _) (.cons (.refl _) (.cons (.own rfl (Nat.le_of_ble_eq_true rfl)) (.cons (.refl _) (.cons (.refl _) .nil))))))) .nil) rfl) (Sees.trans (Sees.freeze 3 (fr' := [(0, .agg [.own 1 0 3, .own 2 0 2, eS 4 eRoad ([(Road.mk ([115, 104, 111, 112] : Str) ([104, 97, 108, 108] : Str) 30 200), (Road.mk ([104, 97, 108, 108] : Str) ([104, 111, 109, 101] : Str) 20 100), (Road.mk ([115, 104, 111, 112] : Str) ([104, 111, 109, 101] : Str) 60 150)] : List Road), eS 3 eGrand ([(Grand.mk ([103] : Str) ([115, 104, 111, 112] : Str) 150), (Grand.mk ([117] : Str) ([104, 111, 109, 101] : Str) 100)] : List Grand), vi 10, vi 300])]) (ob' := [some (.row 6 [.agg [.own 1 0 3, .own 2 0 2, .own 3 0 3, .own 4 0 2, vi 10, vi 300]]), some (.row 1 [vt ([115, 104, 111, 112] : Str), vt ([104, 97, 108, 108] : Str), vt ([104, 111, 109, 101] : Str)]), some (.row 1 [vt ([97, 110, 110] : Str), vt ([98, 111, 98] : Str)]), none, none]) rfl (frzs_cons rfl (frzs_cons rfl (frzs_cons rfl frzs_nil))) (.cons (frz_agg (.cons (.refl _) (.cons (.refl _) (.cons (.own rfl (Nat.le_of_ble_eq_true rfl)) (.cons (.refl _) (.cons (.refl _) (.cons (.refl _) .nil))))))) .nil) rfl) (Sees.trans (Sees.freeze 2 (fr' := [(0, .agg [.own 1 0 3, eS 1 vt ([([97, 110, 110] : Str), ([98, 111, 98] : Str)] : List Str), eS 4 eRoad ([(Road.mk ([115, 104, 111, 112] : Str) ([104, 97, 108, 108] : Str) 30 200), (Road.mk ([104, 97, 108, 108] : Str) ([104, 111, 109, 101] : Str) 20 100), (Road.mk ([115, 104, 111, 112] : Str) ([104, 111, 109, 101] : Str) 60 150)] : List Road), eS 3 eGrand ([(Grand.mk ([103] : Str) ([115, 104, 111, 112] : Str) 150), (Grand.mk ([117] : Str) ([104, 111, 109, 101] : Str) 100)] : List Grand), vi 10, vi 300])]) (ob' := [some (.row 6 [.agg [.own 1 0 3, .own 2 0 2, .own 3 0 3, .own 4 0 2, vi 10, vi 300]]), some (.row 1 [vt ([115, 104, 111, 112] : Str), vt ([104, 97, 108, 108] : Str), vt ([104, 111, 109, 101] : Str)]), none, none, none]) rfl (frzs_cons rfl (frzs_cons rfl frzs_nil)) (.cons (frz_agg (.cons (.refl _) (.cons (.own rfl (Nat.le_of_ble_eq_true rfl)) (.cons (.refl _) (.cons (.refl _) (.cons (.refl _) (.cons (.refl _) .nil))))))) .nil) rfl) (Sees.trans (Sees.freeze 1 (fr' := [(0, .agg [eS 1 vt ([([115, 104, 111, 112] : Str), ([104, 97, 108, 108] : Str), ([104, 111, 109, 101] : Str)] : List Str), eS 1 vt ([([97, 110, 110] : Str), ([98, 111, 98] : Str)] : List Str), eS 4 eRoad ([(Road.mk ([115, 104, 111, 112] : Str) ([104, 97, 108, 108] : Str) 30 200), (Road.mk ([104, 97, 108, 108] : Str) ([104, 111, 109, 101] : Str) 20 100), (Road.mk ([115, 104, 111, 112] : Str) ([104, 111, 109, 101] : Str) 60 150)] : List Road), eS 3 eGrand ([(Grand.mk ([103] : Str) ([115, 104, 111, 112] : Str) 150), (Grand.mk ([117] : Str) ([104, 111, 109, 101] : Str) 100)] : List Grand), vi 10, vi 300])]) (ob' := [some (.row 6 [.agg [.own 1 0 3, .own 2 0 2, .own 3 0 3, .own 4 0 2, vi 10, vi 300]]), none, none, none, none]) rfl (frzs_cons rfl (frzs_cons rfl (frzs_cons rfl frzs_nil))) (.cons (frz_agg (.cons (.own rfl (Nat.le_of_ble_eq_true rfl)) (.cons (.refl _) (.cons (.refl _) (.cons (.refl _) (.cons (.refl _) (.cons (.refl _) .nil))))))) .nil) rfl) (sc [] (by decide) (by kernel_rfl) ObRen.nil rfl rfl))))) rfl rfl
set_option maxHeartbeats 1000000 in
theorem diary_isName_ok (n : Nat) (a0 : Str) (r : Bool) (h : diary_isName n a0 = some r) : FnL Tryz.prog 150 [vt a0] [] (vb r) [] := by
 dsimp only [diary_isName] at h
 refine fo [2] Tryz.call150 Tryz.func150 rfl ?_
 refine sk .a ?_
 refine TriE.seqK h (fun (_ : Unit) => St.mk [(0, vt a0)] []) ?_ ?_
 ·rintro ⟨⟩ h
  refine sj ?_
  refine rk 3 (.k (.i 59 (vb (!(a0 == ([] : Str)))) .n)) ?_
  refine gj (vt a0) 60 (.mov 0) 59 true rfl ?_
  refine gv 61 (.len 1 60) 59 true rfl (fun hg => (ok_len_t rfl)) (fun hg => (.cons hg .nil)) ?_
  refine gv 62 (.bin .leq false 61 (ki 12)) 59 true rfl (fun hg => (n_leq (i := a0.length) (j := 12) rfl rfl)) (fun hg => (.cons hg (.cons rfl .nil))) ?_
  refine pa 63 59 62 rfl rfl ?_
  refine jk 1 (.i 2 (vb ((!(a0 == ([] : Str))) && (decide (a0.length ≤ 12)))) .n) ?_
  refine q3 ?_
  have h := si h
  subst h
  exact DoneS.ret Sees.refl rfl rfl
 intro k1 h
 refine sj ?_
 refine rk 1 (.k (.i 5 (vt a0) .n)) ?_
 refine jo 6 (.len 1 5) (ok_len_t rfl) ?_
 refine jk 1 (.d (.k (.i 6 (vi (a0.length : Int)) (.i 7 (vi 0) .n)))) ?_
 refine q4 ?_
 refine ts (.k2 (.i 7 (vi 0) .n)) ?_
 refine TriE.loopN h (fun (v1 : Nat) => St.mk [(0, vt a0), (6, vi (a0.length : Int)), (7, vi v1)] []) rfl ?_
 clear h
 rintro back v1 h
 dsimp only [diary_isName_L1] at h
 refine sj ?_
 refine jo 8 (.bin .lss false 7 6) (n_lss (i := v1) (j := a0.length) rfl rfl) ?_
 refine jf (.d (.k3 (.i 8 (vb (decide (v1 < a0.length))) .n))) ?_
 refine q1 ?_
 refine tc h (fun c1 h => ?_) (fun c1 h => ?_)
 ·refine q2 ?_
  refine q7 ?_
  refine sk (.k3 (.i 3 (vi v1) .n)) ?_
  refine sj ?_
  refine rk 2 (.k4 (.i 10 (vt a0) (.i 11 (vi v1) .n))) ?_
  refine jo 12 (.sidx 10 11) (ok_sidx_t (j := v1) rfl rfl rfl c1) ?_
  refine rk 2 (.d (.k4 (.i 14 (vb (decide ((97 : Int) ≤ (((List.getD a0 v1 0).toNat : Nat) : Int)))) .n))) ?_
  refine gj (vt a0) 15 (.mov 0) 14 true rfl ?_
  refine gj (vi v1) 16 (.mov 3) 14 true rfl ?_
  refine gv 17 (.sidx 15 16) 14 true rfl (fun hg => (ok_sidx_t (j := v1) rfl rfl rfl c1)) (fun hg => (.cons hg (.cons hg .nil))) ?_
  refine gk (vb (decide ((((List.getD a0 v1 0).toNat : Nat) : Int) ≤ (122 : Int)))) 18 (.bin .leq false 17 (.c (.p (.int .u8 122)))) 14 true rfl (fun hg => (.cons hg (.cons rfl .nil))) ?_
  refine pa 19 14 18 rfl rfl ?_
  refine rk 1 (.d4 (.d (.k4 (.i 15 (.cond (decide ((97 : Int) ≤ (((List.getD a0 v1 0).toNat : Nat) : Int))) (vt a0)) (.i 16 (.cond (decide ((97 : Int) ≤ (((List.getD a0 v1 0).toNat : Nat) : Int))) (vi v1)) (.i 17 (.cond (decide ((97 : Int) ≤ (((List.getD a0 v1 0).toNat : Nat) : Int))) (vk .u8 (((List.getD a0 v1 0).toNat : Nat) : Int))) (.i 18 (.cond (decide ((97 : Int) ≤ (((List.getD a0 v1 0).toNat : Nat) : Int))) (vb (decide ((((List.getD a0 v1 0).toNat : Nat) : Int) ≤ (122 : Int))))) (.i 20 (vb ((decide ((97 : Int) ≤ (((List.getD a0 v1 0).toNat : Nat) : Int))) && (decide ((((List.getD a0 v1 0).toNat : Nat) : Int) ≤ (122 : Int))))) .n)))))))) ?_
  refine gj (vt a0) 21 (.mov 0) 20 false rfl ?_
  refine gj (vi v1) 22 (.mov 3) 20 false rfl ?_
  refine gv 23 (.sidx 21 22) 20 false rfl (fun hg => (ok_sidx_t (j := v1) rfl rfl rfl c1)) (fun hg => (.cons hg (.cons hg .nil))) ?_
  refine gk (vb (decide ((65 : Int) ≤ (((List.getD a0 v1 0).toNat : Nat) : Int)))) 24 (.bin .geq false 23 (.c (.p (.int .u8 65)))) 20 false rfl (fun hg => (.cons hg (.cons rfl .nil))) ?_
  refine gk (vb (decide ((65 : Int) ≤ (((List.getD a0 v1 0).toNat : Nat) : Int)))) 25 (.mov 24) 20 false rfl (fun hg => (.cons hg .nil)) ?_
  refine gj (vt a0) 26 (.mov 0) 25 true rfl ?_
  refine gj (vi v1) 27 (.mov 3) 25 true rfl ?_
  refine gv 28 (.sidx 26 27) 25 true rfl (fun hg => (ok_sidx_t (j := v1) rfl rfl rfl c1)) (fun hg => (.cons hg (.cons hg .nil))) ?_
  refine gk (vb (decide ((((List.getD a0 v1 0).toNat : Nat) : Int) ≤ (90 : Int)))) 29 (.bin .leq false 28 (.c (.p (.int .u8 90)))) 25 true rfl (fun hg => (.cons hg (.cons rfl .nil))) ?_
  refine RegJ.op (Op1.andg (g := !((decide ((97 : Int) ≤ (((List.getD a0 v1 0).toNat : Nat) : Int))) && (decide ((((List.getD a0 v1 0).toNat : Nat) : Int) ≤ (122 : Int))))) (cy (IG 30 (.pick 25 29 (.c (.p (.bool false)))) 20 false)) rfl rfl rfl (fun hg => by first | exact hokA2 hg | exact hokA3 hg | exact hokA1 | exact hokA0 | (rw [hg]; simp) | simp_all)) ?_
  refine po 31 20 30 rfl rfl ?_
  refine jk 1 (.d4 (.d4 (.d3 (.k4 (.i 4 (vb (((decide ((97 : Int) ≤ (((List.getD a0 v1 0).toNat : Nat) : Int))) && (decide ((((List.getD a0 v1 0).toNat : Nat) : Int) ≤ (122 : Int)))) || ((decide ((65 : Int) ≤ (((List.getD a0 v1 0).toNat : Nat) : Int))) && (decide ((((List.getD a0 v1 0).toNat : Nat) : Int) ≤ (90 : Int)))))) .n))))) ?_
  refine sj ?_
  refine rk 3 (.k4 (.i 34 (vb (!(((decide ((97 : Int) ≤ (((List.getD a0 v1 0).toNat : Nat) : Int))) && (decide ((((List.getD a0 v1 0).toNat : Nat) : Int) ≤ (122 : Int)))) || ((decide ((65 : Int) ≤ (((List.getD a0 v1 0).toNat : Nat) : Int))) && (decide ((((List.getD a0 v1 0).toNat : Nat) : Int) ≤ (90 : Int))))))) .n)) ?_
  refine gj (vi v1) 35 (.mov 3) 34 true rfl ?_
  refine gv 36 (.bin .eql false 35 (ki 0)) 34 true rfl (fun hg => (n_eql (i := v1) (j := 0) rfl rfl)) (fun hg => (.cons hg (.cons rfl .nil))) ?_
  refine gk (vb (decide (v1 = 0))) 37 (.mov 36) 34 true rfl (fun hg => (.cons hg .nil)) ?_
  refine gj (vt a0) 38 (.mov 0) 37 false rfl ?_
  refine gj (vi v1) 39 (.mov 3) 37 false rfl ?_
  refine gv 40 (.sidx 38 39) 37 false rfl (fun hg => (ok_sidx_t (j := v1) rfl rfl rfl c1)) (fun hg => (.cons hg (.cons hg .nil))) ?_
  refine gk (vb ((((List.getD a0 v1 0).toNat : Nat) : Int) != (45 : Int))) 41 (.bin .neq false 40 (.c (.p (.int .u8 45)))) 37 false rfl (fun hg => (.cons hg (.cons rfl .nil))) ?_
  refine gk (vb ((((List.getD a0 v1 0).toNat : Nat) : Int) != (45 : Int))) 42 (.mov 41) 37 false rfl (fun hg => (.cons hg .nil)) ?_
  refine gj (vt a0) 43 (.mov 0) 42 true rfl ?_
  refine gj (vi v1) 44 (.mov 3) 42 true rfl ?_
  refine gv 45 (.sidx 43 44) 42 true rfl (fun hg => (ok_sidx_t (j := v1) rfl rfl rfl c1)) (fun hg => (.cons hg (.cons hg .nil))) ?_
  refine gk (vb (decide ((((List.getD a0 v1 0).toNat : Nat) : Int) < (48 : Int)))) 46 (.bin .lss false 45 (.c (.p (.int .u8 48)))) 42 true rfl (fun hg => (.cons hg (.cons rfl .nil))) ?_
  refine gk (vb (decide ((((List.getD a0 v1 0).toNat : Nat) : Int) < (48 : Int)))) 47 (.mov 46) 42 true rfl (fun hg => (.cons hg .nil)) ?_
  refine gj (vt a0) 48 (.mov 0) 47 false rfl ?_
  refine gj (vi v1) 49 (.mov 3) 47 false rfl ?_
  refine gv 50 (.sidx 48 49) 47 false rfl (fun hg => (ok_sidx_t (j := v1) rfl rfl rfl c1)) (fun hg => (.cons hg (.cons hg .nil))) ?_
  refine gk (vb (decide ((57 : Int) < (((List.getD a0 v1 0).toNat : Nat) : Int)))) 51 (.bin .gtr false 50 (.c (.p (.int .u8 57)))) 47 false rfl (fun hg => (.cons hg (.cons rfl .nil))) ?_
  refine RegJ.op (Op1.org (g := ((!(((decide ((97 : Int) ≤ (((List.getD a0 v1 0).toNat : Nat) : Int))) && (decide ((((List.getD a0 v1 0).toNat : Nat) : Int) ≤ (122 : Int)))) || ((decide ((65 : Int) ≤ (((List.getD a0 v1 0).toNat : Nat) : Int))) && (decide ((((List.getD a0 v1 0).toNat : Nat) : Int) ≤ (90 : Int)))))) && !(decide (v1 = 0))) && ((((List.getD a0 v1 0).toNat : Nat) : Int) != (45 : Int))) (cy (IG 52 (.pick 47 (.c (.p (.bool true))) 51) 42 true)) rfl rfl rfl (fun hg => by first | exact hokO2 hg | exact hokO3 hg | exact hokO1 | exact hokO0 | (rw [hg]; simp) | simp_all)) ?_
  refine RegJ.op (Op1.andg (g := (!(((decide ((97 : Int) ≤ (((List.getD a0 v1 0).toNat : Nat) : Int))) && (decide ((((List.getD a0 v1 0).toNat : Nat) : Int) ≤ (122 : Int)))) || ((decide ((65 : Int) ≤ (((List.getD a0 v1 0).toNat : Nat) : Int))) && (decide ((((List.getD a0 v1 0).toNat : Nat) : Int) ≤ (90 : Int)))))) && !(decide (v1 = 0))) (cy (IG 53 (.pick 42 52 (.c (.p (.bool false)))) 37 false)) rfl rfl rfl (fun hg => by first | exact hokA2 hg | exact hokA3 hg | exact hokA1 | exact hokA0 | (rw [hg]; simp) | simp_all)) ?_
  refine RegJ.op (Op1.org (g := !(((decide ((97 : Int) ≤ (((List.getD a0 v1 0).toNat : Nat) : Int))) && (decide ((((List.getD a0 v1 0).toNat : Nat) : Int) ≤ (122 : Int)))) || ((decide ((65 : Int) ≤ (((List.getD a0 v1 0).toNat : Nat) : Int))) && (decide ((((List.getD a0 v1 0).toNat : Nat) : Int) ≤ (90 : Int)))))) (cy (IG 54 (.pick 37 (.c (.p (.bool true))) 53) 34 true)) rfl rfl rfl (fun hg => by first | exact hokO2 hg | exact hokO3 hg | exact hokO1 | exact hokO0 | (rw [hg]; simp) | simp_all)) ?_
  refine pa 55 34 54 rfl rfl ?_
  refine jf (.d4 (.d4 (.d4 (.d4 (.d4 (.d (.k3 (.i 55 (vb ((!(((decide ((97 : Int) ≤ (((List.getD a0 v1 0).toNat : Nat) : Int))) && (decide ((((List.getD a0 v1 0).toNat : Nat) : Int) ≤ (122 : Int)))) || ((decide ((65 : Int) ≤ (((List.getD a0 v1 0).toNat : Nat) : Int))) && (decide ((((List.getD a0 v1 0).toNat : Nat) : Int) ≤ (90 : Int)))))) && ((decide (v1 = 0)) || (((((List.getD a0 v1 0).toNat : Nat) : Int) != (45 : Int)) && ((decide ((((List.getD a0 v1 0).toNat : Nat) : Int) < (48 : Int))) || (decide ((57 : Int) < (((List.getD a0 v1 0).toNat : Nat) : Int)))))))) .n)))))))) ?_
  refine tc h (fun c2 h => ?_) (fun c2 h => ?_)
  ·refine sk (.i 2 (vb false) .n) ?_
   refine q3 ?_
   have h := si h
   subst h
   exact DoneS.ret Sees.refl rfl rfl
  refine q2 ?_
  refine q6 ?_
  refine cK h fun c3 h => ?_
  refine jo 56 (.bin .add false 7 (ki 1)) (r_addn (i := v1) (j := 1) rfl rfl c3) ?_
  refine jk 1 (.d (.k2 (.i 7 (vi ((v1 + 1 : Nat) : Int)) .n))) ?_
  exact Vs.intro sy ⟨(v1 + 1), rfl, h⟩
 refine q5 ?_
 exact Vs.intro sy ⟨(), rfl, h⟩
theorem slices_Index_string_ok (n : Nat) (a0 : List Str) (a1 : Str) (r : Int) (h : slices_Index_string n a0 a1 = some r) : FnL Tryz.prog 53 [eS 1 vt a0, vt a1] [] (vi r) [] := by
 dsimp only [slices_Index_string] at h
 refine fo [4] Tryz.call53 Tryz.func53 rfl ?_
 refine sk .a ?_
 refine TriE.seqK h (fun (_ : Unit) => St.mk [] []) ?_ ?_
 ·rintro ⟨⟩ h
  refine sk (.i 4 (vi (-1)) .n) ?_
  refine q3 ?_
  have h := si h
  subst h
  exact DoneS.ret Sees.refl rfl rfl
 intro k1 h
 refine sj ?_
 refine rk 1 (.k2 (.i 6 (eS 1 vt a0) .n)) ?_
 refine jo 7 (.len 0 6) (ok_len_m rfl) ?_
 refine jk 1 (.d (.k2 (.i 7 (vi (a0.length : Int)) (.i 8 (vi 0) .n)))) ?_
 refine q4 ?_
 refine ts (.k3 (.i 8 (vi 0) .n)) ?_
 refine TriE.loopN h (fun (v1 : Nat) => St.mk [(0, eS 1 vt a0), (1, vt a1), (7, vi (a0.length : Int)), (8, vi v1)] []) rfl ?_
 clear h
 rintro back v1 h
 dsimp only [slices_Index_string_L1] at h
 refine sj ?_
 refine jo 9 (.bin .lss false 8 7) (n_lss (i := v1) (j := a0.length) rfl rfl) ?_
 refine jf (.d (.k4 (.i 9 (vb (decide (v1 < a0.length))) .n))) ?_
 refine q1 ?_
 refine tc h (fun c1 h => ?_) (fun c1 h => ?_)
 ·refine q2 ?_
  refine q7 ?_
  refine sk (.k4 (.i 5 (vi v1) .n)) ?_
  refine sj ?_
  refine rk 3 (.k4 (.k (.i 11 (vt a1) (.i 12 (eS 1 vt a0) (.i 13 (vi v1) .n))))) ?_
  refine jo 14 (.iaddr 1 12 13) (ok_iaddr_m (j := v1) rfl rfl rfl c1) ?_
  refine jo 15 (.load false 1 14) (ok_load_fm (v := vt (ix a0 v1)) rfl c1 rfl) ?_
  refine jk 1 (.d2 (.k4 (.k (.i 16 (vb (a1 == (ix a0 v1))) .n)))) ?_
  refine tc h (fun c2 h => ?_) (fun c2 h => ?_)
  ·refine sk (.i 4 (vi v1) .n) ?_
   refine q3 ?_
   have h := si h
   subst h
   exact DoneS.ret Sees.refl rfl rfl
  refine q2 ?_
  refine q6 ?_
  refine cK h fun c3 h => ?_
  refine jo 18 (.bin .add false 8 (ki 1)) (r_addn (i := v1) (j := 1) rfl rfl c3) ?_
  refine jk 1 (.d (.k3 (.i 8 (vi ((v1 + 1 : Nat) : Int)) .n))) ?_
  exact Vs.intro sy ⟨(v1 + 1), rfl, h⟩
 refine q5 ?_
 exact Vs.intro sy ⟨(), rfl, h⟩
theorem slices_Contains_string_ok (n : Nat) (a0 : List Str) (a1 : Str) (r : Bool) (h : slices_Contains_string n a0 a1 = some r) : FnL Tryz.prog 142 [eS 1 vt a0, vt a1] [] (vb r) [] := by
 dsimp only [slices_Contains_string] at h
 refine fo [4] Tryz.call142 Tryz.func142 rfl ?_
 refine sk .a ?_
 refine sj ?_
 refine rk 2 (.i 5 (eS 1 vt a0) (.i 6 (vt a1) .n)) ?_
 refine bK h fun y1 hy1 h => ?_
 refine jc 7 [5, 6] (slices_Index_string_ok n a0 a1 y1 hy1) ?_
 refine jk 2 (.i 4 (vb (decide ((0 : Int) ≤ y1))) .n) ?_
 refine q3 ?_
 have h := si h
 subst h
 exact DoneS.ret Sees.refl rfl rfl
theorem diary_checkName_ok (n : Nat) (a0 : Str) (a1 : List Str) (r : Int) (h : diary_checkName n a0 a1 = some r) : FnL Tryz.prog 242 [vt a0, eS 1 vt a1] [] (vi r) [] := by
 dsimp only [diary_checkName] at h
 refine fo [4] Tryz.call242 Tryz.func242 rfl ?_
 refine sk .a ?_
 refine q7 ?_
 refine sj ?_
 refine rk 1 (.k2 (.i 6 (vt a0) .n)) ?_
 refine bK h fun y1 hy1 h => ?_
 refine jc 7 [6] (diary_isName_ok n a0 y1 hy1) ?_
 refine jk 2 (.d (.k2 (.i 5 (vb (!y1)) .n))) ?_
 refine tc h (fun c1 h => ?_) (fun c1 h => ?_)
 ·refine sk (.i 4 (vi 4) .n) ?_
  refine q3 ?_
  have h := si h
  subst h
  exact DoneS.ret Sees.refl rfl rfl
 refine sj ?_
 refine rk 2 (.i 10 (eS 1 vt a1) (.i 11 (vt a0) .n)) ?_
 refine bK h fun y2 hy2 h => ?_
 refine jc 12 [10, 11] (slices_Contains_string_ok n a1 a0 y2 hy2) ?_
 refine jk 1 (.i 9 (vb y2) .n) ?_
 refine tc h (fun c2 h => ?_) (fun c2 h => ?_)
 ·refine sk (.i 4 (vi 5) .n) ?_
  refine q3 ?_
  have h := si h
  subst h
  exact DoneS.ret Sees.refl rfl rfl
 refine q2 ?_
 refine sk (.i 4 (vi 0) .n) ?_
 refine q3 ?_
 have h := si h
 subst h
 exact DoneS.ret Sees.refl rfl rfl
theorem diary_checkNames_ok (n : Nat) (a0 : List Str) (a1 : Int) (r : Int) (h : diary_checkNames n a0 a1 = some r) : FnL Tryz.prog 192 [eS 1 vt a0, vi a1] [] (vi r) [] := by
 dsimp only [diary_checkNames] at h
 refine fo [4] Tryz.call192 Tryz.func192 rfl ?_
 refine sk .a ?_
 refine q1 ?_
 refine sj ?_
 refine rk 1 (.k2 (.i 8 (eS 1 vt a0) .n)) ?_
 refine jo 9 (.len 0 8) (ok_len_m rfl) ?_
 refine jk 2 (.d (.k (.i 11 (vb (decide (a1 < (a0.length : Int)))) .n))) ?_
 refine tc h (fun c1 h => ?_) (fun c1 h => ?_)
 ·refine sk (.i 4 (vi 8) .n) ?_
  refine q3 ?_
  have h := si h
  subst h
  exact DoneS.ret Sees.refl rfl rfl
 refine q2 ?_
 refine TriE.seqK h (fun (_ : Unit) => St.mk [] []) ?_ ?_
 ·rintro ⟨⟩ h
  refine sk (.i 4 (vi 0) .n) ?_
  refine q3 ?_
  have h := si h
  subst h
  exact DoneS.ret Sees.refl rfl rfl
 intro k1 h
 refine sj ?_
 refine rk 1 (.k (.i 12 (eS 1 vt a0) .n)) ?_
 refine jo 13 (.len 0 12) (ok_len_m rfl) ?_
 refine jk 1 (.d (.k2 (.i 13 (vi (a0.length : Int)) (.i 14 (vi 0) .n)))) ?_
 refine q4 ?_
 refine ts (.k3 (.i 14 (vi 0) .n)) ?_
 refine TriE.loopN h (fun (v2 : Nat) => St.mk [(0, eS 1 vt a0), (12, eS 1 vt a0), (13, vi (a0.length : Int)), (14, vi v2)] []) rfl ?_
 clear h
 rintro back v2 h
 dsimp only [diary_checkNames_L1] at h
 refine sj ?_
 refine jo 15 (.bin .lss false 14 13) (n_lss (i := v2) (j := a0.length) rfl rfl) ?_
 refine jf (.d (.k4 (.i 15 (vb (decide (v2 < a0.length))) .n))) ?_
 refine q1 ?_
 refine tc h (fun c2 h => ?_) (fun c2 h => ?_)
 ·refine q2 ?_
  refine q7 ?_
  refine sj ?_
  refine rk 1 (.k4 (.i 16 (vi v2) .n)) ?_
  refine jo 17 (.iaddr 1 12 14) (ok_iaddr_m (j := v2) rfl rfl rfl c2) ?_
  refine jo 18 (.load false 1 17) (ok_load_fm (v := vt (ix a0 v2)) rfl c2 rfl) ?_
  refine jk 2 (.d2 (.k4 (.i 5 (vi v2) (.i 6 (vt (ix a0 v2)) .n)))) ?_
  refine sj ?_
  refine rk 3 (.k4 (.i 19 (vt (ix a0 v2)) (.i 20 (eS 1 vt a0) (.i 21 (vi v2) .n)))) ?_
  refine cK h fun c3 h => ?_
  refine jo 22 (.slc 1 20 none (some 21) none) (ok_slc_hi (j := v2) rfl rfl rfl c3) ?_
  refine bK h fun y3 hy3 h => ?_
  refine jc 23 [19, 22] (diary_checkName_ok n (ix a0 v2) (List.take v2 a0) y3 hy3) ?_
  refine jk 1 (.d2 (.k4 (.i 7 (vi y3) .n))) ?_
  refine sk (.k4 (.k (.i 25 (vb (y3 != (0 : Int))) .n))) ?_
  refine tc h (fun c4 h => ?_) (fun c4 h => ?_)
  ·refine sk (.i 4 (vi y3) .n) ?_
   refine q3 ?_
   have h := si h
   subst h
   exact DoneS.ret Sees.refl rfl rfl
  refine q2 ?_
  refine q6 ?_
  refine cK h fun c5 h => ?_
  refine jo 27 (.bin .add false 14 (ki 1)) (r_addn (i := v2) (j := 1) rfl rfl c5) ?_
  refine jk 1 (.d (.k3 (.i 14 (vi ((v2 + 1 : Nat) : Int)) .n))) ?_
  exact Vs.intro sy ⟨(v2 + 1), rfl, h⟩
 refine q5 ?_
 exact Vs.intro sy ⟨(), rfl, h⟩
theorem diary_within_ok (n : Nat) (a0 : Int) (a1 : Int) (a2 : Int) (r : Unit) (h : diary_within n a0 a1 a2 = some r) : FnL Tryz.prog 52 [vi a0, vi a1, vi a2] [] (vb ((decide (a1 ≤ a0)) && (decide (a0 ≤ a2)))) [] := by
 dsimp only [diary_within] at h
 refine fo [6] Tryz.call52 Tryz.func52 rfl ?_
 refine sk .a ?_
 refine sj ?_
 refine rk 4 (.k (.d (.k (.i 10 (vb (decide (a1 ≤ a0))) .n)))) ?_
 refine gj (vi a0) 11 (.mov 0) 10 true rfl ?_
 refine gj (vi a2) 12 (.mov 2) 10 true rfl ?_
 refine gk (vb (decide (a0 ≤ a2))) 13 (.bin .leq false 11 12) 10 true rfl (fun hg => (.cons hg (.cons hg .nil))) ?_
 refine pa 14 10 13 rfl rfl ?_
 refine jk 1 (.i 6 (vb ((decide (a1 ≤ a0)) && (decide (a0 ≤ a2)))) .n) ?_
 refine q3 ?_
 have h := si h
 subst h
 exact DoneS.ret Sees.refl rfl rfl
theorem diary_isWidth_ok (n : Nat) (a0 : Int) (r : Unit) (h : diary_isWidth n a0 = some r) : FnL Tryz.prog 97 [vi a0] [] (vb ((decide (1 ≤ a0)) && (decide (a0 ≤ 10000)))) [] := by
 dsimp only [diary_isWidth] at h
 refine fo [2] Tryz.call97 Tryz.func97 rfl ?_
 refine sk .a ?_
 refine sj ?_
 refine rk 1 (.i 3 (vi a0) .n) ?_
 refine bK h fun y1 hy1 h => ?_
 refine jc 4 [3, (ki 1), (ki 10000)] (diary_within_ok n a0 1 10000 y1 hy1) ?_
 refine jk 1 (.i 2 (vb ((decide (1 ≤ a0)) && (decide (a0 ≤ 10000)))) .n) ?_
 refine q3 ?_
 have h := si h
 subst h
 exact DoneS.ret Sees.refl rfl rfl
set_option maxHeartbeats 1000000 in
theorem diary_checkRoads_ok (n : Nat) (a0 : Diary) (r : Int) (h : diary_checkRoads n a0 = some r) : FnL Tryz.prog 193 [.agg [eS 1 vt a0.Places, eS 1 vt a0.Technicians, eS 4 eRoad a0.Roads, eS 3 eGrand a0.Grands, vi a0.Change, vi a0.Lasts]] [] (vi r) [] := by
 dsimp only [diary_checkRoads] at h
 refine fo [2] Tryz.call193 Tryz.func193 rfl ?_
 refine sko (.i 1 (.ptr 0 0 0) .n) [some (.row 6 [.agg [eS 1 vt a0.Places, eS 1 vt a0.Technicians, eS 4 eRoad a0.Roads, eS 3 eGrand a0.Grands, vi a0.Change, vi a0.Lasts]])] ?_
 refine q1 ?_
 refine sj ?_
 refine rk 2 (.k (.i 6 (eS 4 eRoad a0.Roads) .n)) ?_
 refine jo 7 (.len 0 6) (ok_len_m rfl) ?_
 refine jo 8 (.bin .gtr false 7 (ki 60)) (n_gtr (i := a0.Roads.length) (j := 60) rfl rfl) ?_
 refine jf (.d2 (.k (.i 8 (vb (decide (60 < a0.Roads.length))) .n))) ?_
 refine tc h (fun c1 h => ?_) (fun c1 h => ?_)
 ·refine sk (.i 2 (vi 8) .n) ?_
  refine q3 ?_
  have h := si h
  subst h
  exact DoneS.ret (S' := ⟨[(2, vi 8)], []⟩) (sc [] (by decide) (by kernel_rfl) ObRen.nil rfl rfl) rfl rfl
 refine q2 ?_
 refine TriE.seqK h (fun (_ : Unit) => St.mk [] []) ?_ ?_
 ·rintro ⟨⟩ h
  refine sk (.i 2 (vi 0) .n) ?_
  refine q3 ?_
  have h := si h
  subst h
  exact DoneS.ret Sees.refl rfl rfl
 intro k1 h
 refine sj ?_
 refine rk 2 (.k (.i 10 (eS 4 eRoad a0.Roads) .n)) ?_
 refine jo 11 (.len 0 10) (ok_len_m rfl) ?_
 refine jk 1 (.d (.k2 (.i 11 (vi ((a0.Roads.length : Nat) : Int)) (.i 12 (vi 0) .n)))) ?_
 refine q4 ?_
 refine ts (.k3 (.i 12 (vi 0) .n)) ?_
 refine TriE.loopN h (fun (v5 : Nat) => St.mk [(1, .ptr 0 0 0), (10, eS 4 eRoad a0.Roads), (11, vi ((a0.Roads.length : Nat) : Int)), (12, vi v5)] [some (.row 6 [.agg [eS 1 vt a0.Places, eS 1 vt a0.Technicians, eS 4 eRoad a0.Roads, eS 3 eGrand a0.Grands, vi a0.Change, vi a0.Lasts]])]) rfl ?_
 clear h
 rintro back v5 h
 dsimp only [diary_checkRoads_L1] at h
 refine sj ?_
 refine jo 13 (.bin .lss false 12 11) (n_lss (i := v5) (j := a0.Roads.length) rfl rfl) ?_
 refine jf (.d (.k4 (.i 13 (vb (decide (v5 < a0.Roads.length))) .n))) ?_
 refine q1 ?_
 refine tc h (fun c2 h => ?_) (fun c2 h => ?_)
 ·refine q2 ?_
  refine q7 ?_
  refine sj ?_
  refine jo 14 (.iaddr 4 10 12) (ok_iaddr_m (j := v5) rfl rfl rfl c2) ?_
  refine jo 15 (.load true 4 14) (ok_load_fm (v := .agg [vt ((ix a0.Roads v5).A), vt ((ix a0.Roads v5).B), vi ((ix a0.Roads v5).Minutes), vi ((ix a0.Roads v5).Width)]) rfl c2 rfl) ?_
  refine jko 2 (.d2 (.k4 (.i 4 (.ptr 1 0 0) .n))) [some (.row 6 [.agg [eS 1 vt a0.Places, eS 1 vt a0.Technicians, eS 4 eRoad a0.Roads, eS 3 eGrand a0.Grands, vi a0.Change, vi a0.Lasts]]), some (.row 4 [.agg [vt ((ix a0.Roads v5).A), vt ((ix a0.Roads v5).B), vi ((ix a0.Roads v5).Minutes), vi ((ix a0.Roads v5).Width)]])] ?_
  refine q4 ?_
  refine sj ?_
  refine rk 4 (.k4 (.k (.i 18 (eS 1 vt a0.Places) (.i 20 (vt ((ix a0.Roads v5).A)) .n)))) ?_
  refine bK h fun y6 hy6 h => ?_
  refine jc 21 [18, 20] (slices_Contains_string_ok n a0.Places ((ix a0.Roads v5).A) y6 hy6) ?_
  refine rk 2 (.d (.k4 (.k (.i 23 (vb (!y6)) .n)))) ?_
  refine gj (.ptr 0 0 0) 24 (.faddr 0 1) 23 false rfl ?_
  refine gk (eS 1 vt a0.Places) 25 (.load false 1 24) 23 false rfl (fun hg => (.cons hg .nil)) ?_
  refine gj (.ptr 1 0 1) 26 (.faddr 1 4) 23 false rfl ?_
  refine gk (vt ((ix a0.Roads v5).B)) 27 (.load false 1 26) 23 false rfl (fun hg => (.cons hg .nil)) ?_
  refine bK h fun y7 hy7 h => ?_
  refine gc 28 [25, 27] 23 false rfl (fun hg => slices_Contains_string_ok n a0.Places ((ix a0.Roads v5).B) y7 (gcall_some hy7 hg)) (fun hg => (.cons rfl (.cons hg (.cons hg .nil)))) (fun hg => by kernel_rfl) ?_
  refine gk (vb (!y7)) 29 (.un .not 28) 23 false rfl (fun hg => (.cons hg .nil)) ?_
  refine po 30 23 29 rfl rfl ?_
  refine jk 1 (.d4 (.d3 (.k4 (.k (.i 16 (vb ((!y6) || (!y7))) .n))))) ?_
  refine tc h (fun c3 h => ?_) (fun c3 h => ?_)
  ·refine sk (.i 2 (vi 6) .n) ?_
   refine q3 ?_
   have h := si h
   subst h
   exact DoneS.ret (S' := ⟨[(2, vi 6)], []⟩) (sc [] (by decide) (by kernel_rfl) ObRen.nil rfl rfl) rfl rfl
  refine sk (.k4 (.k (.i 31 (vb (((ix a0.Roads v5).A) == ((ix a0.Roads v5).B))) .n))) ?_
  refine tc h (fun c4 h => ?_) (fun c4 h => ?_)
  ·refine sk (.i 2 (vi 3) .n) ?_
   refine q3 ?_
   have h := si h
   subst h
   exact DoneS.ret (S' := ⟨[(2, vi 3)], []⟩) (sc [] (by decide) (by kernel_rfl) ObRen.nil rfl rfl) rfl rfl
  refine sj ?_
  refine rk 2 (.k4 (.k (.i 39 (vi ((ix a0.Roads v5).Minutes)) .n))) ?_
  refine bK h fun y8 hy8 h => ?_
  refine jc 40 [39, (ki 1), (ki 10000)] (diary_within_ok n ((ix a0.Roads v5).Minutes) 1 10000 y8 hy8) ?_
  refine rk 2 (.d (.k4 (.k (.i 42 (vb (!((decide (1 ≤ ((ix a0.Roads v5).Minutes))) && (decide (((ix a0.Roads v5).Minutes) ≤ 10000))))) .n)))) ?_
  refine gj (.ptr 1 0 3) 43 (.faddr 3 4) 42 false rfl ?_
  refine gk (vi ((ix a0.Roads v5).Width)) 44 (.load false 1 43) 42 false rfl (fun hg => (.cons hg .nil)) ?_
  refine bK h fun y9 hy9 h => ?_
  refine gc 45 [44] 42 false rfl (fun hg => diary_isWidth_ok n ((ix a0.Roads v5).Width) y9 (gcall_some hy9 hg)) (fun hg => (.cons rfl (.cons hg .nil))) (fun hg => by kernel_rfl) ?_
  refine gk (vb (!((decide (1 ≤ ((ix a0.Roads v5).Width))) && (decide (((ix a0.Roads v5).Width) ≤ 10000))))) 46 (.un .not 45) 42 false rfl (fun hg => (.cons hg .nil)) ?_
  refine po 47 42 46 rfl rfl ?_
  refine jk 1 (.d4 (.d (.k4 (.i 37 (vb ((!((decide (1 ≤ ((ix a0.Roads v5).Minutes))) && (decide (((ix a0.Roads v5).Minutes) ≤ 10000)))) || (!((decide (1 ≤ ((ix a0.Roads v5).Width))) && (decide (((ix a0.Roads v5).Width) ≤ 10000)))))) .n)))) ?_
  refine tc h (fun c5 h => ?_) (fun c5 h => ?_)
  ·refine sk (.i 2 (vi 2) .n) ?_
   refine q3 ?_
   have h := si h
   subst h
   exact DoneS.ret (S' := ⟨[(2, vi 2)], []⟩) (sc [] (by decide) (by kernel_rfl) ObRen.nil rfl rfl) rfl rfl
  refine q2 ?_
  refine q6 ?_
  refine cK h fun c6 h => ?_
  refine jo 48 (.bin .add false 12 (ki 1)) (r_addn (i := v5) (j := 1) rfl rfl c6) ?_
  refine jk 1 (.d (.k3 (.i 12 (vi ((v5 + 1 : Nat) : Int)) .n))) ?_
  exact Vs.intro (sc [0] (by decide) (by kernel_rfl) (.cons rfl .nil) rfl rfl) ⟨(v5 + 1), rfl, h⟩
 refine q5 ?_
 exact Vs.intro (sc [] (by decide) (by kernel_rfl) ObRen.nil rfl rfl) ⟨(), rfl, h⟩
theorem slices_Index_string_2_ok (n : Nat) (a0 : List Str) (a1 : Str) (r : Int) (h : slices_Index_string_2 n a0 a1 = some r) : FnL Tryz.prog 53 [.own 0 0 a0.length, vt a1] [some (.row 1 (List.map vt a0))] (vi r) [some (.row 1 (List.map vt a0))] := by
 dsimp only [slices_Index_string_2] at h
 refine fob [4] Tryz.call53 Tryz.func53 rfl (.cons rfl .nil) ?_
 refine sk .a ?_
 refine TriE.seqK h (fun (_ : Unit) => St.mk [] [some (.row 1 (List.map vt a0))]) ?_ ?_
 ·rintro ⟨⟩ h
  refine sk (.i 4 (vi (-1)) .n) ?_
  refine q3 ?_
  have h := si h
  subst h
  exact DoneS.ret Sees.refl rfl rfl
 intro k1 h
 refine sk (.k2 (.i 7 (vi (a0.length : Int)) (.i 8 (vi 0) .n))) ?_
 refine q4 ?_
 refine ts (.k3 (.i 8 (vi 0) .n)) ?_
 refine TriE.loopN h (fun (v1 : Nat) => St.mk [(0, .own 0 0 a0.length), (1, vt a1), (7, vi (a0.length : Int)), (8, vi v1)] [some (.row 1 (List.map vt a0))]) rfl ?_
 clear h
 rintro back v1 h
 dsimp only [slices_Index_string_2_L1] at h
 refine sj ?_
 refine jo 9 (.bin .lss false 8 7) (n_lss (i := v1) (j := a0.length) rfl rfl) ?_
 refine jf (.d (.k4 (.i 9 (vb (decide (v1 < a0.length))) .n))) ?_
 refine q1 ?_
 refine tc h (fun c1 h => ?_) (fun c1 h => ?_)
 ·refine q2 ?_
  refine q7 ?_
  refine sk (.k4 (.i 5 (vi v1) .n)) ?_
  refine sj ?_
  refine rk 3 (.k4 (.k (.i 11 (vt a1) (.i 12 (.own 0 0 a0.length) (.i 13 (vi v1) .n))))) ?_
  refine jo 14 (.iaddr 1 12 13) (ok_iaddr_o0 (j := v1) rfl rfl rfl rfl c1) ?_
  refine jo 15 (.load false 1 14) (ok_load_pm (l := a0) (e := vt) (v := vt (ix a0 v1)) rfl rfl c1 rfl) ?_
  refine jk 1 (.d2 (.k4 (.k (.i 16 (vb (a1 == (ix a0 v1))) .n)))) ?_
  refine tc h (fun c2 h => ?_) (fun c2 h => ?_)
  ·refine sk (.i 4 (vi v1) .n) ?_
   refine q3 ?_
   have h := si h
   subst h
   exact DoneS.ret Sees.refl rfl rfl
  refine q2 ?_
  refine q6 ?_
  refine cK h fun c3 h => ?_
  refine jo 18 (.bin .add false 8 (ki 1)) (r_addn (i := v1) (j := 1) rfl rfl c3) ?_
  refine jk 1 (.d (.k3 (.i 8 (vi ((v1 + 1 : Nat) : Int)) .n))) ?_
  exact Vs.intro sy ⟨(v1 + 1), rfl, h⟩
 refine q5 ?_
 exact Vs.intro sy ⟨(), rfl, h⟩
theorem slices_Contains_string_2_ok (n : Nat) (a0 : List Str) (a1 : Str) (r : Bool) (h : slices_Contains_string_2 n a0 a1 = some r) : FnL Tryz.prog 142 [.own 0 0 a0.length, vt a1] [some (.row 1 (List.map vt a0))] (vb r) [some (.row 1 (List.map vt a0))] := by
 dsimp only [slices_Contains_string_2] at h
 refine fob [4] Tryz.call142 Tryz.func142 rfl (.cons rfl .nil) ?_
 refine sk .a ?_
 refine sj ?_
 refine rk 2 (.i 5 (.own 0 0 a0.length) (.i 6 (vt a1) .n)) ?_
 refine bK h fun y1 hy1 h => ?_
 refine jco (vi y1) 7 [5, 6] (slices_Index_string_2_ok n a0 a1 y1 hy1) [0] rfl (.same (row_ren vt_frz _ _ _) .nil) (.same (row_ren vt_frz _ _ _) .nil) rfl ?_
 refine jk 2 (.i 4 (vb (decide ((0 : Int) ≤ y1))) .n) ?_
 refine q3 ?_
 have h := si h
 subst h
 exact DoneS.ret Sees.refl rfl rfl
theorem diary_checkName_2_ok (n : Nat) (a0 : Str) (a1 : List Str) (r : Int) (h : diary_checkName_2 n a0 a1 = some r) : FnL Tryz.prog 242 [vt a0, .own 0 0 a1.length] [some (.row 1 (List.map vt a1))] (vi r) [some (.row 1 (List.map vt a1))] := by
 dsimp only [diary_checkName_2] at h
 refine fob [4] Tryz.call242 Tryz.func242 rfl (.cons rfl .nil) ?_
 refine sk .a ?_
 refine q7 ?_
 refine sj ?_
 refine rk 1 (.k2 (.i 6 (vt a0) .n)) ?_
 refine bK h fun y1 hy1 h => ?_
 refine jc 7 [6] (diary_isName_ok n a0 y1 hy1) ?_
 refine jk 2 (.d (.k2 (.i 5 (vb (!y1)) .n))) ?_
 refine tc h (fun c1 h => ?_) (fun c1 h => ?_)
 ·refine sk (.i 4 (vi 4) .n) ?_
  refine q3 ?_
  have h := si h
  subst h
  exact DoneS.ret Sees.refl rfl rfl
 refine sj ?_
 refine rk 2 (.i 10 (.own 0 0 a1.length) (.i 11 (vt a0) .n)) ?_
 refine bK h fun y2 hy2 h => ?_
 refine jco (vb y2) 12 [10, 11] (slices_Contains_string_2_ok n a1 a0 y2 hy2) [0] rfl (.same (row_ren vt_frz _ _ _) .nil) (.same (row_ren vt_frz _ _ _) .nil) rfl ?_
 refine jk 1 (.i 9 (vb y2) .n) ?_
 refine tc h (fun c2 h => ?_) (fun c2 h => ?_)
 ·refine sk (.i 4 (vi 5) .n) ?_
  refine q3 ?_
  have h := si h
  subst h
  exact DoneS.ret Sees.refl rfl rfl
 refine q2 ?_
 refine sk (.i 4 (vi 0) .n) ?_
 refine q3 ?_
 have h := si h
 subst h
 exact DoneS.ret Sees.refl rfl rfl
set_option maxHeartbeats 1000000 in
theorem diary_checkGrands_ok (n : Nat) (a0 : Diary) (r : Int) (h : diary_checkGrands n a0 = some r) : FnL Tryz.prog 194 [.agg [eS 1 vt a0.Places, eS 1 vt a0.Technicians, eS 4 eRoad a0.Roads, eS 3 eGrand a0.Grands, vi a0.Change, vi a0.Lasts]] [] (vi r) [] := by
 dsimp only [diary_checkGrands] at h
 refine fo [2] Tryz.call194 Tryz.func194 rfl ?_
 refine sko (.i 1 (.ptr 0 0 0) .n) [some (.row 6 [.agg [eS 1 vt a0.Places, eS 1 vt a0.Technicians, eS 4 eRoad a0.Roads, eS 3 eGrand a0.Grands, vi a0.Change, vi a0.Lasts]])] ?_
 refine q1 ?_
 refine sj ?_
 refine rk 2 (.k (.i 8 (eS 3 eGrand a0.Grands) .n)) ?_
 refine jo 9 (.len 0 8) (ok_len_m rfl) ?_
 refine jo 10 (.bin .gtr false 9 (ki 12)) (n_gtr (i := a0.Grands.length) (j := 12) rfl rfl) ?_
 refine jf (.d2 (.k (.i 10 (vb (decide (12 < a0.Grands.length))) .n))) ?_
 refine tc h (fun c1 h => ?_) (fun c1 h => ?_)
 ·refine sk (.i 2 (vi 8) .n) ?_
  refine q3 ?_
  have h := si h
  subst h
  exact DoneS.ret (S' := ⟨[(2, vi 8)], []⟩) (sc [] (by decide) (by kernel_rfl) ObRen.nil rfl rfl) rfl rfl
 refine q2 ?_
 refine sk (.k (.i 3 .emp .n)) ?_
 refine TriE.seqK h (fun (_ : Unit) => St.mk [] []) ?_ ?_
 ·rintro ⟨⟩ h
  refine sk (.i 2 (vi 0) .n) ?_
  refine q3 ?_
  have h := si h
  subst h
  exact DoneS.ret Sees.refl rfl rfl
 intro k1 h
 refine sj ?_
 refine rk 2 (.k2 (.i 12 (eS 3 eGrand a0.Grands) .n)) ?_
 refine jo 13 (.len 0 12) (ok_len_m rfl) ?_
 refine jk 1 (.d (.k3 (.i 13 (vi ((a0.Grands.length : Nat) : Int)) (.i 14 (vi 0) .n)))) ?_
 refine q4 ?_
 refine TriE.sees (S' := ⟨[(1, .ptr 0 0 0), (3, .own 1 0 ([] : List Str).length), (12, eS 3 eGrand a0.Grands), (13, vi ((a0.Grands.length : Nat) : Int)), (14, vi 0)], [some (.row 6 [.agg [eS 1 vt a0.Places, eS 1 vt a0.Technicians, eS 4 eRoad a0.Roads, eS 3 eGrand a0.Grands, vi a0.Change, vi a0.Lasts]]), some (.row 1 (List.map vt ([] : List Str)))]⟩) (Sees.trans (Sees.co (fr' := [(1, .ptr 0 0 0), (3, .own 1 0 0), (12, eS 3 eGrand a0.Grands), (13, vi ((a0.Grands.length : Nat) : Int)), (14, vi 0)]) (ob' := [some (.row 6 [.agg [eS 1 vt a0.Places, eS 1 vt a0.Technicians, eS 4 eRoad a0.Roads, eS 3 eGrand a0.Grands, vi a0.Change, vi a0.Lasts]])]) (.cons .same (.cons .own (.cons .same (.cons .same (.cons .same .nil))))) (.same .nil) 1) sy) ?_
 refine TriE.loopN h (fun (t : (List Str) × Nat) => match t with | (v4, v5) => St.mk [(1, .ptr 0 0 0), (3, .own 1 0 v4.length), (12, eS 3 eGrand a0.Grands), (13, vi ((a0.Grands.length : Nat) : Int)), (14, vi v5)] [some (.row 6 [.agg [eS 1 vt a0.Places, eS 1 vt a0.Technicians, eS 4 eRoad a0.Roads, eS 3 eGrand a0.Grands, vi a0.Change, vi a0.Lasts]]), some (.row 1 (List.map vt v4))]) rfl ?_
 clear h
 rintro back ⟨v4, v5⟩ h
 dsimp only [diary_checkGrands_L1] at h
 refine sj ?_
 refine jo 15 (.bin .lss false 14 13) (n_lss (i := v5) (j := a0.Grands.length) rfl rfl) ?_
 refine jf (.d (.k4 (.k (.i 15 (vb (decide (v5 < a0.Grands.length))) .n)))) ?_
 refine q1 ?_
 refine tc h (fun c2 h => ?_) (fun c2 h => ?_)
 ·refine q2 ?_
  refine q7 ?_
  refine sj ?_
  refine jo 16 (.iaddr 3 12 14) (ok_iaddr_m (j := v5) rfl rfl rfl c2) ?_
  refine jo 17 (.load true 3 16) (ok_load_fm (v := .agg [vt ((ix a0.Grands v5).Name), vt ((ix a0.Grands v5).Place), vi ((ix a0.Grands v5).Width)]) rfl c2 rfl) ?_
  refine jko 2 (.d2 (.k4 (.k (.i 5 (.ptr 2 0 0) .n)))) [some (.row 6 [.agg [eS 1 vt a0.Places, eS 1 vt a0.Technicians, eS 4 eRoad a0.Roads, eS 3 eGrand a0.Grands, vi a0.Change, vi a0.Lasts]]), some (.row 1 (List.map vt v4)), some (.row 3 [.agg [vt ((ix a0.Grands v5).Name), vt ((ix a0.Grands v5).Place), vi ((ix a0.Grands v5).Width)]])] ?_
  refine q1 ?_
  refine sj ?_
  refine rk 3 (.k4 (.k2 (.i 19 (vt ((ix a0.Grands v5).Name)) (.i 20 (.own 1 0 v4.length) .n)))) ?_
  refine bK h fun y6 hy6 h => ?_
  refine jco (vi y6) 21 [19, 20] (diary_checkName_2_ok n ((ix a0.Grands v5).Name) v4 y6 hy6) [1] rfl (.same (row_ren vt_frz _ _ _) .nil) (.same (row_ren vt_frz _ _ _) .nil) rfl ?_
  refine jk 1 (.d (.k4 (.k2 (.i 6 (vi y6) .n)))) ?_
  refine sk (.k4 (.k3 (.i 23 (vb (y6 != (0 : Int))) .n))) ?_
  refine tc h (fun c3 h => ?_) (fun c3 h => ?_)
  ·refine sk (.i 2 (vi y6) .n) ?_
   refine q3 ?_
   have h := si h
   subst h
   exact DoneS.ret (S' := ⟨[(2, vi y6)], []⟩) (sc [] (by decide) (by kernel_rfl) ObRen.nil rfl rfl) rfl rfl
  refine q2 ?_
  refine q7 ?_
  refine sj ?_
  refine rk 4 (.k4 (.k2 (.i 27 (eS 1 vt a0.Places) (.i 29 (vt ((ix a0.Grands v5).Place)) .n)))) ?_
  refine bK h fun y7 hy7 h => ?_
  refine jc 30 [27, 29] (slices_Contains_string_ok n a0.Places ((ix a0.Grands v5).Place) y7 hy7) ?_
  refine jk 2 (.d (.k4 (.k2 (.i 25 (vb (!y7)) .n)))) ?_
  refine tc h (fun c4 h => ?_) (fun c4 h => ?_)
  ·refine sk (.i 2 (vi 6) .n) ?_
   refine q3 ?_
   have h := si h
   subst h
   exact DoneS.ret (S' := ⟨[(2, vi 6)], []⟩) (sc [] (by decide) (by kernel_rfl) ObRen.nil rfl rfl) rfl rfl
  refine sj ?_
  refine rk 2 (.k4 (.k2 (.i 34 (vi ((ix a0.Grands v5).Width)) .n))) ?_
  refine bK h fun y8 hy8 h => ?_
  refine jc 35 [34] (diary_isWidth_ok n ((ix a0.Grands v5).Width) y8 hy8) ?_
  refine jk 2 (.d (.k4 (.k2 (.i 32 (vb (!((decide (1 ≤ ((ix a0.Grands v5).Width))) && (decide (((ix a0.Grands v5).Width) ≤ 10000))))) .n)))) ?_
  refine tc h (fun c5 h => ?_) (fun c5 h => ?_)
  ·refine sk (.i 2 (vi 2) .n) ?_
   refine q3 ?_
   have h := si h
   subst h
   exact DoneS.ret (S' := ⟨[(2, vi 2)], []⟩) (sc [] (by decide) (by kernel_rfl) ObRen.nil rfl rfl) rfl rfl
  refine q2 ?_
  refine q6 ?_
  refine rko 4 (.k (.d (.k3 (.i 37 (.own 1 0 v4.length) (.i 40 (.own 3 0 1) .n))))) [some (.row 6 [.agg [eS 1 vt a0.Places, eS 1 vt a0.Technicians, eS 4 eRoad a0.Roads, eS 3 eGrand a0.Grands, vi a0.Change, vi a0.Lasts]]), some (.row 1 (List.map vt v4)), some (.row 3 [.agg [vt ((ix a0.Grands v5).Name), vt ((ix a0.Grands v5).Place), vi ((ix a0.Grands v5).Width)]]), some (.row 1 [vt ((ix a0.Grands v5).Name)])] ?_
  refine cK h fun c6 h => ?_
  refine jx 41 (.app 1 16 37 40) _ (ok_app_own (l := v4) (l2 := ([(ix a0.Grands v5).Name] : List Str)) (e := vt) (u := .own 3 0 1) rfl rfl rfl rfl rfl c6) rfl rfl ?_
  refine jk 1 (.d (.k4 (.i 3 (.own 4 0 ((v4 ++ ([(ix a0.Grands v5).Name] : List Str)).length)) .n))) ?_
  refine q6 ?_
  refine cK h fun c7 h => ?_
  refine jo 42 (.bin .add false 14 (ki 1)) (r_addn (i := v5) (j := 1) rfl rfl c7) ?_
  refine jk 1 (.d (.k3 (.d (.k (.i 14 (vi ((v5 + 1 : Nat) : Int)) .n))))) ?_
  exact Vs.intro (sc [0, 4] (by decide) (by kernel_rfl) (.cons rfl (obRen_row vt_frz rfl .nil)) rfl rfl) ⟨((v4 ++ ([(ix a0.Grands v5).Name] : List Str)), v5 + 1), rfl, h⟩
 refine q5 ?_
 exact Vs.intro (sc [] (by decide) (by kernel_rfl) ObRen.nil rfl rfl) ⟨(), rfl, h⟩
theorem diary_CheckDiary_ok (n : Nat) (a0 : Diary) (r : Int) (h : diary_CheckDiary n a0 = some r) : FnL Tryz.prog 141 [.agg [eS 1 vt a0.Places, eS 1 vt a0.Technicians, eS 4 eRoad a0.Roads, eS 3 eGrand a0.Grands, vi a0.Change, vi a0.Lasts]] [] (vi r) [] := by
 dsimp only [diary_CheckDiary] at h
 refine fo [2] Tryz.call141 Tryz.func141 rfl ?_
 refine sko (.i 1 (.ptr 0 0 0) .n) [some (.row 6 [.agg [eS 1 vt a0.Places, eS 1 vt a0.Technicians, eS 4 eRoad a0.Roads, eS 3 eGrand a0.Grands, vi a0.Change, vi a0.Lasts]])] ?_
 refine q1 ?_
 refine sj ?_
 refine rk 2 (.k (.i 8 (eS 1 vt a0.Places) .n)) ?_
 refine bK h fun y1 hy1 h => ?_
 refine jc 9 [8, (ki 20)] (diary_checkNames_ok n a0.Places 20 y1 hy1) ?_
 refine jk 1 (.d (.k (.i 3 (vi y1) .n))) ?_
 refine sk (.k2 (.i 11 (vb (y1 != (0 : Int))) .n)) ?_
 refine tc h (fun c1 h => ?_) (fun c1 h => ?_)
 ·refine sk (.i 2 (vi y1) .n) ?_
  refine q3 ?_
  have h := si h
  subst h
  exact DoneS.ret (S' := ⟨[(2, vi y1)], []⟩) (sc [] (by decide) (by kernel_rfl) ObRen.nil rfl rfl) rfl rfl
 refine q2 ?_
 refine q1 ?_
 refine sj ?_
 refine rk 1 (.k (.i 13 (.agg [eS 1 vt a0.Places, eS 1 vt a0.Technicians, eS 4 eRoad a0.Roads, eS 3 eGrand a0.Grands, vi a0.Change, vi a0.Lasts]) .n)) ?_
 refine bK h fun y2 hy2 h => ?_
 refine jc 14 [13] (diary_checkRoads_ok n a0 y2 hy2) ?_
 refine jk 1 (.d (.k (.i 4 (vi y2) .n))) ?_
 refine sk (.k2 (.i 16 (vb (y2 != (0 : Int))) .n)) ?_
 refine tc h (fun c2 h => ?_) (fun c2 h => ?_)
 ·refine sk (.i 2 (vi y2) .n) ?_
  refine q3 ?_
  have h := si h
  subst h
  exact DoneS.ret (S' := ⟨[(2, vi y2)], []⟩) (sc [] (by decide) (by kernel_rfl) ObRen.nil rfl rfl) rfl rfl
 refine q2 ?_
 refine q1 ?_
 refine sj ?_
 refine rk 1 (.k (.i 18 (.agg [eS 1 vt a0.Places, eS 1 vt a0.Technicians, eS 4 eRoad a0.Roads, eS 3 eGrand a0.Grands, vi a0.Change, vi a0.Lasts]) .n)) ?_
 refine bK h fun y3 hy3 h => ?_
 refine jc 19 [18] (diary_checkGrands_ok n a0 y3 hy3) ?_
 refine jk 1 (.d (.k (.i 5 (vi y3) .n))) ?_
 refine sk (.k2 (.i 21 (vb (y3 != (0 : Int))) .n)) ?_
 refine tc h (fun c3 h => ?_) (fun c3 h => ?_)
 ·refine sk (.i 2 (vi y3) .n) ?_
  refine q3 ?_
  have h := si h
  subst h
  exact DoneS.ret (S' := ⟨[(2, vi y3)], []⟩) (sc [] (by decide) (by kernel_rfl) ObRen.nil rfl rfl) rfl rfl
 refine q2 ?_
 refine q1 ?_
 refine sj ?_
 refine rk 2 (.k (.i 24 (eS 1 vt a0.Technicians) .n)) ?_
 refine bK h fun y4 hy4 h => ?_
 refine jc 25 [24, (ki 12)] (diary_checkNames_ok n a0.Technicians 12 y4 hy4) ?_
 refine jk 1 (.d (.k (.i 6 (vi y4) .n))) ?_
 refine sk (.k2 (.i 27 (vb (y4 != (0 : Int))) .n)) ?_
 refine tc h (fun c4 h => ?_) (fun c4 h => ?_)
 ·refine sk (.i 2 (vi y4) .n) ?_
  refine q3 ?_
  have h := si h
  subst h
  exact DoneS.ret (S' := ⟨[(2, vi y4)], []⟩) (sc [] (by decide) (by kernel_rfl) ObRen.nil rfl rfl) rfl rfl
 refine q2 ?_
 refine q1 ?_
 refine sj ?_
 refine rk 2 (.k (.i 30 (vi a0.Change) .n)) ?_
 refine bK h fun y5 hy5 h => ?_
 refine jc 31 [30, (ki 0), (ki 1000)] (diary_within_ok n a0.Change 0 1000 y5 hy5) ?_
 refine rk 2 (.d (.k (.i 33 (vb (!((decide (0 ≤ a0.Change)) && (decide (a0.Change ≤ 1000))))) .n))) ?_
 refine gj (.ptr 0 0 5) 34 (.faddr 5 1) 33 false rfl ?_
 refine gk (vi a0.Lasts) 35 (.load false 1 34) 33 false rfl (fun hg => (.cons hg .nil)) ?_
 refine bK h fun y6 hy6 h => ?_
 refine gc 36 [35, (ki 0), (ki 100000)] 33 false rfl (fun hg => diary_within_ok n a0.Lasts 0 100000 y6 (gcall_some hy6 hg)) (fun hg => (.cons rfl (.cons hg (.cons rfl (.cons rfl .nil))))) (fun hg => by kernel_rfl) ?_
 refine gk (vb (!((decide (0 ≤ a0.Lasts)) && (decide (a0.Lasts ≤ 100000))))) 37 (.un .not 36) 33 false rfl (fun hg => (.cons hg .nil)) ?_
 refine po 38 33 37 rfl rfl ?_
 refine jf (.i 38 (vb ((!((decide (0 ≤ a0.Change)) && (decide (a0.Change ≤ 1000)))) || (!((decide (0 ≤ a0.Lasts)) && (decide (a0.Lasts ≤ 100000)))))) .n) ?_
 refine tc h (fun c5 h => ?_) (fun c5 h => ?_)
 ·refine sk (.i 2 (vi 2) .n) ?_
  refine q3 ?_
  have h := si h
  subst h
  exact DoneS.ret (S' := ⟨[(2, vi 2)], []⟩) (sc [] (by decide) (by kernel_rfl) ObRen.nil rfl rfl) rfl rfl
 refine q2 ?_
 refine sk (.i 2 (vi 0) .n) ?_
 refine q3 ?_
 have h := si h
 subst h
 exact DoneS.ret (S' := ⟨[(2, vi 0)], []⟩) (sc [] (by decide) (by kernel_rfl) ObRen.nil rfl rfl) rfl rfl
theorem diary_open_ok (n : Nat) (a0 : Diary) (r : Int ⊕ Unit) (h : diary_open n a0 = some r) : FnL Tryz.prog 95 [.agg [eS 1 vt a0.Places, eS 1 vt a0.Technicians, eS 4 eRoad a0.Roads, eS 3 eGrand a0.Grands, vi a0.Change, vi a0.Lasts]] [] (match r with | .inl r => .tup [.p (.pointer none), vi r] | .inr r => .tup [.ptr 1 0 0, vi 0]) (match r with | .inl r => [] | .inr r => [some (.mp (mpE vi (eM eArr2_Str vi) ([] : List (Int × List (Arr2_Str × Int))))), some (.row 7 [.agg [eS 1 vt a0.Places, eS 1 vt a0.Technicians, eS 4 eRoad a0.Roads, eS 3 eGrand a0.Grands, vi a0.Change, vi a0.Lasts, .map 0]])]) := by
 dsimp only [diary_open] at h
 refine FnL.ofS (ts := [2, 3]) Tryz.call95 Tryz.func95 rfl rfl (Nat.le_of_ble_eq_true rfl) (by rcases r with r | r <;> exact Nat.le_of_ble_eq_true rfl) (fun j h => absurd h (Nat.not_lt_zero j)) ?_
 refine sko (.i 1 (.ptr 0 0 0) .n) [some (.row 6 [.agg [eS 1 vt a0.Places, eS 1 vt a0.Technicians, eS 4 eRoad a0.Roads, eS 3 eGrand a0.Grands, vi a0.Change, vi a0.Lasts]])] ?_
 refine q1 ?_
 refine sj ?_
 refine rk 1 (.k (.i 5 (.agg [eS 1 vt a0.Places, eS 1 vt a0.Technicians, eS 4 eRoad a0.Roads, eS 3 eGrand a0.Grands, vi a0.Change, vi a0.Lasts]) .n)) ?_
 refine bK h fun y1 hy1 h => ?_
 refine jc 6 [5] (diary_CheckDiary_ok n a0 y1 hy1) ?_
 refine jk 1 (.d (.k (.i 4 (vi y1) .n))) ?_
 refine sk (.k2 (.i 8 (vb (y1 != (0 : Int))) .n)) ?_
 refine tc h (fun c1 h => ?_) (fun c1 h => ?_)
 ·refine sk (.i 2 (.p (.pointer none)) (.i 3 (vi y1) .n)) ?_
  refine q3 ?_
  have h := si h
  subst h
  exact DoneS.ret (S' := ⟨[(2, .p (.pointer none)), (3, vi y1)], []⟩) (sc [] (by decide) (by kernel_rfl) ObRen.nil rfl rfl) rfl rfl
 refine q2 ?_
 refine sj ?_
 refine rk 1 (.i 10 (.agg [eS 1 vt a0.Places, eS 1 vt a0.Technicians, eS 4 eRoad a0.Roads, eS 3 eGrand a0.Grands, vi a0.Change, vi a0.Lasts]) .n) ?_
 refine jx 11 .mkmap _ rfl rfl rfl ?_
 refine jko 4 (.i 2 (.ptr 2 0 0) (.i 3 (vi 0) .n)) [some (.row 6 [.agg [eS 1 vt a0.Places, eS 1 vt a0.Technicians, eS 4 eRoad a0.Roads, eS 3 eGrand a0.Grands, vi a0.Change, vi a0.Lasts]]), some (.mp (mpE vi (eM eArr2_Str vi) ([] : List (Int × List (Arr2_Str × Int))))), some (.row 7 [.agg [eS 1 vt a0.Places, eS 1 vt a0.Technicians, eS 4 eRoad a0.Roads, eS 3 eGrand a0.Grands, vi a0.Change, vi a0.Lasts, .map 1]])] ?_
 refine q3 ?_
 have h := si h
 subst h
 exact DoneS.ret (S' := ⟨[(2, .ptr 1 0 0), (3, vi 0)], [some (.mp (mpE vi (eM eArr2_Str vi) ([] : List (Int × List (Arr2_Str × Int))))), some (.row 7 [.agg [eS 1 vt a0.Places, eS 1 vt a0.Technicians, eS 4 eRoad a0.Roads, eS 3 eGrand a0.Grands, vi a0.Change, vi a0.Lasts, .map 0]])]⟩) (sc [1, 2] (by decide) (by kernel_rfl) (obRen_mp vi_frz (eM_frz eArr2_Str vi) rfl (.cons rfl .nil)) rfl rfl) rfl rfl
theorem diary_plan_isPlace_2_ok (n : Nat) (a0 : List Str) (a1 : List Str) (a2 : List Road) (a3 : List Grand) (a4 : Int) (a5 : Int) (a6 : List (Int × List (Arr2_Str × Int))) (a7 : Str) (r : Bool) (h : diary_plan_isPlace_2 n a0 a1 a2 a3 a4 a5 a6 a7 = some r) : FnL Tryz.prog 96 [.ptr 0 0 0, vt a7] [some (.row 7 [.agg [eS 1 vt a0, eS 1 vt a1, eS 4 eRoad a2, eS 3 eGrand a3, vi a4, vi a5, .map 1]]), some (.mp (mpE vi (eM eArr2_Str vi) a6))] (vb r) [some (.row 7 [.agg [eS 1 vt a0, eS 1 vt a1, eS 4 eRoad a2, eS 3 eGrand a3, vi a4, vi a5, .map 1]]), some (.mp (mpE vi (eM eArr2_Str vi) a6))] := by
 dsimp only [diary_plan_isPlace_2] at h
 refine fob [4] Tryz.call96 Tryz.func96 rfl (.cons rfl (.cons rfl .nil)) ?_
 refine sk .a ?_
 refine sj ?_
 refine rk 6 (.i 9 (eS 1 vt a0) (.i 10 (vt a7) .n)) ?_
 refine bK h fun y1 hy1 h => ?_
 refine jc 11 [9, 10] (slices_Contains_string_ok n a0 a7 y1 hy1) ?_
 refine jk 1 (.i 4 (vb y1) .n) ?_
 refine q3 ?_
 have h := si h
 subst h
 exact DoneS.ret Sees.refl rfl rfl
set_option maxHeartbeats 1000000 in
theorem diary_plan_joined_ok (n : Nat) (a0 : List Str) (a1 : List Str) (a2 : List Road) (a3 : List Grand) (a4 : Int) (a5 : Int) (a6 : List (Int × List (Arr2_Str × Int))) (a7 : Str) (a8 : Str) (a9 : Int) (r : Int × Bool) (h : diary_plan_joined n a0 a1 a2 a3 a4 a5 a6 a7 a8 a9 = some r) : FnL Tryz.prog 195 [.ptr 0 0 0, vt a7, vt a8, vi a9] [some (.row 7 [.agg [eS 1 vt a0, eS 1 vt a1, eS 4 eRoad a2, eS 3 eGrand a3, vi a4, vi a5, .map 1]]), some (.mp (mpE vi (eM eArr2_Str vi) a6))] (.tup [vi r.1, vb r.2]) [some (.row 7 [.agg [eS 1 vt a0, eS 1 vt a1, eS 4 eRoad a2, eS 3 eGrand a3, vi a4, vi a5, .map 1]]), some (.mp (mpE vi (eM eArr2_Str vi) a6))] := by
 dsimp only [diary_plan_joined] at h
 refine fob [8, 9] Tryz.call195 Tryz.func195 rfl (.cons rfl (.cons rfl .nil)) ?_
 refine sk .a ?_
 refine sk (.k4 (.i 10 (vi 0) (.i 11 (vb false) .n))) ?_
 refine TriE.seqK h (fun (t : Int × Bool) => match t with | (v8, v9) => St.mk [(10, vi v8), (11, vb v9)] [some (.row 7 [.agg [eS 1 vt a0, eS 1 vt a1, eS 4 eRoad a2, eS 3 eGrand a3, vi a4, vi a5, .map 1]]), some (.mp (mpE vi (eM eArr2_Str vi) a6))]) ?_ ?_
 ·rintro ⟨v8, v9⟩ h
  refine sk (.i 8 (vi v8) (.i 9 (vb v9) .n)) ?_
  refine q3 ?_
  have h := si h
  subst h
  exact DoneS.ret Sees.refl rfl rfl
 intro k2 h
 refine sj ?_
 refine rk 5 (.d (.k4 (.k (.i 18 (eS 4 eRoad a2) .n)))) ?_
 refine jo 19 (.len 0 18) (ok_len_m rfl) ?_
 refine jk 1 (.d (.k4 (.k2 (.i 19 (vi (a2.length : Int)) (.i 20 (vi 0) .n))))) ?_
 refine q4 ?_
 refine ts (.k4 (.k3 (.i 20 (vi 0) .n))) ?_
 refine TriE.loopN h (fun (t : Int × Bool × Nat) => match t with | (v3, v4, v5) => St.mk [(1, vt a7), (2, vt a8), (3, vi a9), (10, vi v3), (11, vb v4), (18, eS 4 eRoad a2), (19, vi (a2.length : Int)), (20, vi v5)] [some (.row 7 [.agg [eS 1 vt a0, eS 1 vt a1, eS 4 eRoad a2, eS 3 eGrand a3, vi a4, vi a5, .map 1]]), some (.mp (mpE vi (eM eArr2_Str vi) a6))]) rfl ?_
 clear h
 rintro back ⟨v3, v4, v5⟩ h
 dsimp only [diary_plan_joined_L1] at h
 refine sj ?_
 refine jo 21 (.bin .lss false 20 19) (n_lss (i := v5) (j := a2.length) rfl rfl) ?_
 refine jf (.d (.k4 (.k4 (.i 21 (vb (decide (v5 < a2.length))) .n)))) ?_
 refine q1 ?_
 refine tc h (fun c1 h => ?_) (fun c1 h => ?_)
 ·refine q2 ?_
  refine TriE.seqK h (fun (t : Int × Bool) => match t with | (v6, v7) => St.mk [(1, vt a7), (2, vt a8), (3, vi a9), (18, eS 4 eRoad a2), (19, vi (a2.length : Int)), (20, vi v5), (10, vi v6), (11, vb v7)] [some (.row 7 [.agg [eS 1 vt a0, eS 1 vt a1, eS 4 eRoad a2, eS 3 eGrand a3, vi a4, vi a5, .map 1]]), some (.mp (mpE vi (eM eArr2_Str vi) a6))]) ?_ ?_
  ·rintro ⟨v6, v7⟩ h
   refine q6 ?_
   refine cK h fun c3 h => ?_
   refine jo 64 (.bin .add false 20 (ki 1)) (r_addn (i := v5) (j := 1) rfl rfl c3) ?_
   refine jk 1 (.d (.k4 (.k (.d (.k2 (.i 20 (vi ((v5 + 1 : Nat) : Int)) .n)))))) ?_
   exact Vs.intro sy ⟨(v6, v7, v5 + 1), rfl, h⟩
  intro k1 h
  refine q4 ?_
  refine sj ?_
  refine jo 22 (.iaddr 4 18 20) (ok_iaddr_m (j := v5) rfl rfl rfl c1) ?_
  refine jo 23 (.load true 4 22) (ok_load_fm (v := .agg [vt ((ix a2 v5).A), vt ((ix a2 v5).B), vi ((ix a2 v5).Minutes), vi ((ix a2 v5).Width)]) rfl c1 rfl) ?_
  refine jko 2 (.d2 (.k4 (.k4 (.i 13 (.ptr 2 0 0) .n)))) [some (.row 7 [.agg [eS 1 vt a0, eS 1 vt a1, eS 4 eRoad a2, eS 3 eGrand a3, vi a4, vi a5, .map 1]]), some (.mp (mpE vi (eM eArr2_Str vi) a6)), some (.row 4 [.agg [vt ((ix a2 v5).A), vt ((ix a2 v5).B), vi ((ix a2 v5).Minutes), vi ((ix a2 v5).Width)]])] ?_
  refine sj ?_
  refine rk 5 (.k4 (.k4 (.k (.i 28 (vb (((ix a2 v5).A) == a7)) .n)))) ?_
  refine gj (.ptr 2 0 1) 29 (.faddr 1 13) 28 true rfl ?_
  refine gk (vt ((ix a2 v5).B)) 30 (.load false 1 29) 28 true rfl (fun hg => (.cons hg .nil)) ?_
  refine gj (vt a8) 31 (.mov 2) 28 true rfl ?_
  refine gk (vb (((ix a2 v5).B) == a8)) 32 (.bin .eql false 30 31) 28 true rfl (fun hg => (.cons hg (.cons hg .nil))) ?_
  refine pa 33 28 32 rfl rfl ?_
  refine rk 1 (.d4 (.d (.k4 (.k4 (.k (.i 29 (.cond (((ix a2 v5).A) == a7) (.ptr 2 0 1)) (.i 30 (.cond (((ix a2 v5).A) == a7) (vt ((ix a2 v5).B))) (.i 31 (.cond (((ix a2 v5).A) == a7) (vt a8)) (.i 32 (.cond (((ix a2 v5).A) == a7) (vb (((ix a2 v5).B) == a8))) (.i 34 (vb ((((ix a2 v5).A) == a7) && (((ix a2 v5).B) == a8))) .n)))))))))) ?_
  refine gj (.ptr 2 0 0) 35 (.faddr 0 13) 34 false rfl ?_
  refine gk (vt ((ix a2 v5).A)) 36 (.load false 1 35) 34 false rfl (fun hg => (.cons hg .nil)) ?_
  refine gj (vt a8) 37 (.mov 2) 34 false rfl ?_
  refine gk (vb (((ix a2 v5).A) == a8)) 38 (.bin .eql false 36 37) 34 false rfl (fun hg => (.cons hg (.cons hg .nil))) ?_
  refine gk (vb (((ix a2 v5).A) == a8)) 39 (.mov 38) 34 false rfl (fun hg => (.cons hg .nil)) ?_
  refine gj (.ptr 2 0 1) 40 (.faddr 1 13) 39 true rfl ?_
  refine gk (vt ((ix a2 v5).B)) 41 (.load false 1 40) 39 true rfl (fun hg => (.cons hg .nil)) ?_
  refine gj (vt a7) 42 (.mov 1) 39 true rfl ?_
  refine gk (vb (((ix a2 v5).B) == a7)) 43 (.bin .eql false 41 42) 39 true rfl (fun hg => (.cons hg (.cons hg .nil))) ?_
  refine RegJ.op (Op1.andg (g := !((((ix a2 v5).A) == a7) && (((ix a2 v5).B) == a8))) (cy (IG 44 (.pick 39 43 (.c (.p (.bool false)))) 34 false)) rfl rfl rfl (fun hg => by first | exact hokA2 hg | exact hokA3 hg | exact hokA1 | exact hokA0 | (rw [hg]; simp) | simp_all)) ?_
  refine po 45 34 44 rfl rfl ?_
  refine rk 1 (.d4 (.d4 (.d3 (.k4 (.k4 (.k4 (.k (.i 35 (.cond (!((((ix a2 v5).A) == a7) && (((ix a2 v5).B) == a8))) (.ptr 2 0 0)) (.i 36 (.cond (!((((ix a2 v5).A) == a7) && (((ix a2 v5).B) == a8))) (vt ((ix a2 v5).A))) (.i 37 (.cond (!((((ix a2 v5).A) == a7) && (((ix a2 v5).B) == a8))) (vt a8)) (.i 38 (.cond (!((((ix a2 v5).A) == a7) && (((ix a2 v5).B) == a8))) (vb (((ix a2 v5).A) == a8))) (.i 39 (.cond (!((((ix a2 v5).A) == a7) && (((ix a2 v5).B) == a8))) (vb (((ix a2 v5).A) == a8))) (.i 40 (.cond ((!((((ix a2 v5).A) == a7) && (((ix a2 v5).B) == a8))) && (((ix a2 v5).A) == a8)) (.ptr 2 0 1)) (.i 41 (.cond ((!((((ix a2 v5).A) == a7) && (((ix a2 v5).B) == a8))) && (((ix a2 v5).A) == a8)) (vt ((ix a2 v5).B))) (.i 42 (.cond ((!((((ix a2 v5).A) == a7) && (((ix a2 v5).B) == a8))) && (((ix a2 v5).A) == a8)) (vt a7)) (.i 43 (.cond ((!((((ix a2 v5).A) == a7) && (((ix a2 v5).B) == a8))) && (((ix a2 v5).A) == a8)) (vb (((ix a2 v5).B) == a7))) (.i 44 (.cond (!((((ix a2 v5).A) == a7) && (((ix a2 v5).B) == a8))) (vb ((((ix a2 v5).A) == a8) && (((ix a2 v5).B) == a7)))) (.i 46 (vb (((((ix a2 v5).A) == a7) && (((ix a2 v5).B) == a8)) || ((((ix a2 v5).A) == a8) && (((ix a2 v5).B) == a7)))) .n)))))))))))))))))) ?_
  refine gj (.ptr 2 0 3) 47 (.faddr 3 13) 46 true rfl ?_
  refine gk (vi ((ix a2 v5).Width)) 48 (.load false 1 47) 46 true rfl (fun hg => (.cons hg .nil)) ?_
  refine gj (vi a9) 49 (.mov 3) 46 true rfl ?_
  refine gk (vb (decide (a9 ≤ ((ix a2 v5).Width)))) 50 (.bin .geq false 48 49) 46 true rfl (fun hg => (.cons hg (.cons hg .nil))) ?_
  refine pa 51 46 50 rfl rfl ?_
  refine rk 1 (.d4 (.d (.k4 (.k4 (.k4 (.k4 (.k4 (.k3 (.i 47 (.cond (((((ix a2 v5).A) == a7) && (((ix a2 v5).B) == a8)) || ((((ix a2 v5).A) == a8) && (((ix a2 v5).B) == a7))) (.ptr 2 0 3)) (.i 48 (.cond (((((ix a2 v5).A) == a7) && (((ix a2 v5).B) == a8)) || ((((ix a2 v5).A) == a8) && (((ix a2 v5).B) == a7))) (vi ((ix a2 v5).Width))) (.i 49 (.cond (((((ix a2 v5).A) == a7) && (((ix a2 v5).B) == a8)) || ((((ix a2 v5).A) == a8) && (((ix a2 v5).B) == a7))) (vi a9)) (.i 50 (.cond (((((ix a2 v5).A) == a7) && (((ix a2 v5).B) == a8)) || ((((ix a2 v5).A) == a8) && (((ix a2 v5).B) == a7))) (vb (decide (a9 ≤ ((ix a2 v5).Width))))) (.i 52 (vb ((((((ix a2 v5).A) == a7) && (((ix a2 v5).B) == a8)) || ((((ix a2 v5).A) == a8) && (((ix a2 v5).B) == a7))) && (decide (a9 ≤ ((ix a2 v5).Width))))) .n))))))))))))) ?_
  refine gj (vb v4) 53 (.mov 11) 52 true rfl ?_
  refine gk (vb (!v4)) 54 (.un .not 53) 52 true rfl (fun hg => (.cons hg .nil)) ?_
  refine gk (vb (!v4)) 55 (.mov 54) 52 true rfl (fun hg => (.cons hg .nil)) ?_
  refine gj (.ptr 2 0 2) 56 (.faddr 2 13) 55 false rfl ?_
  refine gk (vi ((ix a2 v5).Minutes)) 57 (.load false 1 56) 55 false rfl (fun hg => (.cons hg .nil)) ?_
  refine gj (vi v3) 58 (.mov 10) 55 false rfl ?_
  refine gk (vb (decide (((ix a2 v5).Minutes) < v3))) 59 (.bin .lss false 57 58) 55 false rfl (fun hg => (.cons hg (.cons hg .nil))) ?_
  refine RegJ.op (Op1.org (g := (((((ix a2 v5).A) == a7) && (((ix a2 v5).B) == a8)) || ((((ix a2 v5).A) == a8) && (((ix a2 v5).B) == a7))) && (decide (a9 ≤ ((ix a2 v5).Width)))) (cy (IG 60 (.pick 55 (.c (.p (.bool true))) 59) 52 true)) rfl rfl rfl (fun hg => by first | exact hokO2 hg | exact hokO3 hg | exact hokO1 | exact hokO0 | (rw [hg]; simp) | simp_all)) ?_
  refine pa 61 52 60 rfl rfl ?_
  refine jf (.d4 (.d4 (.d (.k4 (.k4 (.k (.i 61 (vb (((((((ix a2 v5).A) == a7) && (((ix a2 v5).B) == a8)) || ((((ix a2 v5).A) == a8) && (((ix a2 v5).B) == a7))) && (decide (a9 ≤ ((ix a2 v5).Width)))) && ((!v4) || (decide (((ix a2 v5).Minutes) < v3))))) .n))))))) ?_
  refine tc h (fun c2 h => ?_) (fun c2 h => ?_)
  ·refine tk (.k3 (.d2 (.k3 (.i 10 (vi ((ix a2 v5).Minutes)) (.i 11 (vb true) .n))))) ?_
   exact Vs.intro (sc [0, 1] (by decide) (by kernel_rfl) (.cons rfl (obRen_mp vi_frz (eM_frz eArr2_Str vi) rfl .nil)) rfl rfl) ⟨((ix a2 v5).Minutes, true), rfl, h⟩
  refine q2 ?_
  exact Vs.intro (sc [0, 1] (by decide) (by kernel_rfl) (.cons rfl (obRen_mp vi_frz (eM_frz eArr2_Str vi) rfl .nil)) rfl rfl) ⟨(v3, v4), rfl, h⟩
 refine q5 ?_
 exact Vs.intro sy ⟨(v3, v4), rfl, h⟩
set_option maxHeartbeats 1000000 in
theorem diary_plan_distances_ok (n : Nat) (a0 : List Str) (a1 : List Str) (a2 : List Road) (a3 : List Grand) (a4 : Int) (a5 : Int) (a6 : List (Int × List (Arr2_Str × Int))) (a7 : Int) (r : (List (Arr2_Str × Int)) × (List (Int × List (Arr2_Str × Int)))) (h : diary_plan_distances n a0 a1 a2 a3 a4 a5 a6 a7 = some r) : FnL Tryz.prog 143 [.ptr 0 0 0, vi a7] [some (.row 7 [.agg [eS 1 vt a0, eS 1 vt a1, eS 4 eRoad a2, eS 3 eGrand a3, vi a4, vi a5, .map 1]]), some (.mp (mpE vi (eM eArr2_Str vi) a6))] (eM eArr2_Str vi r.1) [some (.row 7 [.agg [eS 1 vt a0, eS 1 vt a1, eS 4 eRoad a2, eS 3 eGrand a3, vi a4, vi a5, .map 1]]), some (.mp (mpE vi (eM eArr2_Str vi) r.2))] := by
 dsimp only [diary_plan_distances] at h
 refine fob [4] Tryz.call143 Tryz.func143 rfl (.cons rfl (.cons rfl .nil)) ?_
 refine sk .a ?_
 refine q1 ?_
 refine TriE.seqK2 h (fun (_ : Unit) => St.mk [(0, .ptr 0 0 0), (1, vi a7), (5, eM eArr2_Str vi (Option.getD (List.lookup a7 a6) ([] : List (Arr2_Str × Int)))), (6, vb true)] [some (.row 7 [.agg [eS 1 vt a0, eS 1 vt a1, eS 4 eRoad a2, eS 3 eGrand a3, vi a4, vi a5, .map 1]]), some (.mp (mpE vi (eM eArr2_Str vi) a6))]) (fun (_ : Unit) => St.mk [(0, .ptr 0 0 0), (1, vi a7), (5, .p (.map none)), (6, vb false)] [some (.row 7 [.agg [eS 1 vt a0, eS 1 vt a1, eS 4 eRoad a2, eS 3 eGrand a3, vi a4, vi a5, .map 1]]), some (.mp (mpE vi (eM eArr2_Str vi) a6))]) ?_ ?_ ?_
 ·rintro ⟨⟩ h
  refine sk (.k3 (.i 35 (vb true) .n)) ?_
  refine TriE.cond (b := true) rfl (fun c2 => ?_) (fun c2 => ?_)
  rotate_left
  ·cases c2
  refine sk (.i 4 (eM eArr2_Str vi (Option.getD (List.lookup a7 a6) ([] : List (Arr2_Str × Int)))) .n) ?_
  refine q3 ?_
  have h := si h
  subst h
  exact DoneS.ret Sees.refl rfl rfl
 ·rintro ⟨⟩ h
  refine sk (.k3 (.i 35 (vb false) .n)) ?_
  refine TriE.cond (b := false) rfl (fun c3 => ?_) (fun c3 => ?_)
  ·cases c3
  refine q2 ?_
  refine sj ?_
  refine jx 37 .mkmap _ rfl rfl rfl ?_
  refine jk 1 (.d (.k2 (.i 7 (.map 2) .n))) ?_
  refine TriE.seqK h (fun (v17 : (List (Arr2_Str × Int))) => St.mk [(0, .ptr 0 0 0), (1, vi a7), (7, .map 2)] [some (.row 7 [.agg [eS 1 vt a0, eS 1 vt a1, eS 4 eRoad a2, eS 3 eGrand a3, vi a4, vi a5, .map 1]]), some (.mp (mpE vi (eM eArr2_Str vi) a6)), some (.mp (mpE eArr2_Str vi v17))]) ?_ ?_
  ·rintro v17 h
   refine TriE.seqK h (fun (v46 : (List (Arr2_Str × Int))) => St.mk [(0, .ptr 0 0 0), (1, vi a7), (7, .map 2)] [some (.row 7 [.agg [eS 1 vt a0, eS 1 vt a1, eS 4 eRoad a2, eS 3 eGrand a3, vi a4, vi a5, .map 1]]), some (.mp (mpE vi (eM eArr2_Str vi) a6)), some (.mp (mpE eArr2_Str vi v46))]) ?_ ?_
   ·rintro v46 h
    refine sj ?_
    refine rk 6 (.d2 (.k (.i 165 (.map 1) (.i 166 (vi a7) (.i 167 (.map 2) .n))))) ?_
    refine RegJ.sees (Sees.frzMap (ek := eArr2_Str) (ev := vi) (l := v46) 2 (fr' := [(7, eM eArr2_Str vi v46), (165, .map 1), (166, vi a7), (167, eM eArr2_Str vi v46)]) (ob' := [some (.row 7 [.agg [eS 1 vt a0, eS 1 vt a1, eS 4 eRoad a2, eS 3 eGrand a3, vi a4, vi a5, .map 1]]), some (.mp (mpE vi (eM eArr2_Str vi) a6)), none]) rfl eArr2_Str_frz vi_frz (.cons .map (.cons (.refl _) (.cons (.refl _) (.cons .map .nil)))) rfl) ?_
    refine jn (.mapset false 165 166 167) _ (ok_mapset_i (l := a6) (ev := (eM eArr2_Str vi)) (v := v46) rfl rfl rfl rfl) rfl rfl ?_
    refine jf (.k .n) ?_
    refine sk (.i 4 (eM eArr2_Str vi v46) .n) ?_
    refine q3 ?_
    have h := si h
    subst h
    exact DoneS.ret (S' := ⟨[(4, eM eArr2_Str vi v46)], [some (.row 7 [.agg [eS 1 vt a0, eS 1 vt a1, eS 4 eRoad a2, eS 3 eGrand a3, vi a4, vi a5, .map 1]]), some (.mp (mpE vi (eM eArr2_Str vi) (mPut a7 v46 a6)))]⟩) (sc [0, 1] (by decide) (by kernel_rfl) (.cons rfl (obRen_mp vi_frz (eM_frz eArr2_Str vi) rfl .nil)) rfl rfl) rfl rfl
   intro k9 h
   refine sj ?_
   refine rk 5 (.k3 (.i 87 (eS 1 vt a0) .n)) ?_
   refine jo 88 (.len 0 87) (ok_len_m rfl) ?_
   refine jk 1 (.d (.k4 (.i 88 (vi (a0.length : Int)) (.i 89 (vi 0) .n)))) ?_
   refine q4 ?_
   refine ts (.k4 (.k (.i 89 (vi 0) .n))) ?_
   refine TriE.loopN h (fun (t : Nat × (List (Arr2_Str × Int))) => match t with | (v31, v32) => St.mk [(0, .ptr 0 0 0), (1, vi a7), (7, .map 2), (87, eS 1 vt a0), (88, vi (a0.length : Int)), (89, vi v31)] [some (.row 7 [.agg [eS 1 vt a0, eS 1 vt a1, eS 4 eRoad a2, eS 3 eGrand a3, vi a4, vi a5, .map 1]]), some (.mp (mpE vi (eM eArr2_Str vi) a6)), some (.mp (mpE eArr2_Str vi v32))]) rfl ?_
   clear h
   rintro back ⟨v31, v32⟩ h
   dsimp only [diary_plan_distances_L5] at h
   refine sj ?_
   refine jo 90 (.bin .lss false 89 88) (n_lss (i := v31) (j := a0.length) rfl rfl) ?_
   refine jf (.d (.k4 (.k2 (.i 90 (vb (decide (v31 < a0.length))) .n)))) ?_
   refine q1 ?_
   refine tc h (fun c9 h => ?_) (fun c9 h => ?_)
   ·refine q2 ?_
    refine TriE.seqK h (fun (v45 : (List (Arr2_Str × Int))) => St.mk [(0, .ptr 0 0 0), (1, vi a7), (7, .map 2), (87, eS 1 vt a0), (88, vi (a0.length : Int)), (89, vi v31)] [some (.row 7 [.agg [eS 1 vt a0, eS 1 vt a1, eS 4 eRoad a2, eS 3 eGrand a3, vi a4, vi a5, .map 1]]), some (.mp (mpE vi (eM eArr2_Str vi) a6)), some (.mp (mpE eArr2_Str vi v45))]) ?_ ?_
    ·rintro v45 h
     refine q6 ?_
     refine cK h fun c17 h => ?_
     refine jo 161 (.bin .add false 89 (ki 1)) (r_addn (i := v31) (j := 1) rfl rfl c17) ?_
     refine jk 1 (.d (.k4 (.k (.i 89 (vi ((v31 + 1 : Nat) : Int)) .n)))) ?_
     exact Vs.intro sy ⟨(v31 + 1, v45), rfl, h⟩
    intro k8 h
    refine q4 ?_
    refine sj ?_
    refine jo 91 (.iaddr 1 87 89) (ok_iaddr_m (j := v31) rfl rfl rfl c9) ?_
    refine jo 92 (.load false 1 91) (ok_load_fm (v := vt (ix a0 v31)) rfl c9 rfl) ?_
    refine jk 1 (.d2 (.k4 (.k2 (.i 15 (vt (ix a0 v31)) .n)))) ?_
    refine sj ?_
    refine rk 5 (.k4 (.k3 (.i 97 (eS 1 vt a0) .n))) ?_
    refine jo 98 (.len 0 97) (ok_len_m rfl) ?_
    refine jk 1 (.d (.k4 (.k4 (.i 98 (vi (a0.length : Int)) (.i 99 (vi 0) .n))))) ?_
    refine q4 ?_
    refine ts (.k4 (.k4 (.k (.i 99 (vi 0) .n)))) ?_
    refine TriE.loopN h (fun (t : Nat × (List (Arr2_Str × Int))) => match t with | (v38, v39) => St.mk [(0, .ptr 0 0 0), (1, vi a7), (7, .map 2), (87, eS 1 vt a0), (88, vi (a0.length : Int)), (89, vi v31), (15, vt (ix a0 v31)), (97, eS 1 vt a0), (98, vi (a0.length : Int)), (99, vi v38)] [some (.row 7 [.agg [eS 1 vt a0, eS 1 vt a1, eS 4 eRoad a2, eS 3 eGrand a3, vi a4, vi a5, .map 1]]), some (.mp (mpE vi (eM eArr2_Str vi) a6)), some (.mp (mpE eArr2_Str vi v39))]) rfl ?_
    clear h
    rintro back ⟨v38, v39⟩ h
    dsimp only [diary_plan_distances_L4] at h
    refine sj ?_
    refine jo 100 (.bin .lss false 99 98) (n_lss (i := v38) (j := a0.length) rfl rfl) ?_
    refine jf (.d (.k4 (.k4 (.k2 (.i 100 (vb (decide (v38 < a0.length))) .n))))) ?_
    refine q1 ?_
    refine tc h (fun c10 h => ?_) (fun c10 h => ?_)
    ·refine q2 ?_
     refine TriE.seqK h (fun (v44 : (List (Arr2_Str × Int))) => St.mk [(0, .ptr 0 0 0), (1, vi a7), (7, .map 2), (87, eS 1 vt a0), (88, vi (a0.length : Int)), (89, vi v31), (15, vt (ix a0 v31)), (97, eS 1 vt a0), (98, vi (a0.length : Int)), (99, vi v38)] [some (.row 7 [.agg [eS 1 vt a0, eS 1 vt a1, eS 4 eRoad a2, eS 3 eGrand a3, vi a4, vi a5, .map 1]]), some (.mp (mpE vi (eM eArr2_Str vi) a6)), some (.mp (mpE eArr2_Str vi v44))]) ?_ ?_
     ·rintro v44 h
      refine q6 ?_
      refine cK h fun c16 h => ?_
      refine jo 160 (.bin .add false 99 (ki 1)) (r_addn (i := v38) (j := 1) rfl rfl c16) ?_
      refine jk 1 (.d (.k4 (.k4 (.k (.i 99 (vi ((v38 + 1 : Nat) : Int)) .n))))) ?_
      exact Vs.intro sy ⟨(v38 + 1, v44), rfl, h⟩
     intro k7 h
     refine q4 ?_
     refine sj ?_
     refine jo 101 (.iaddr 1 97 99) (ok_iaddr_m (j := v38) rfl rfl rfl c10) ?_
     refine jo 102 (.load false 1 101) (ok_load_fm (v := vt (ix a0 v38)) rfl c10 rfl) ?_
     refine jk 1 (.d2 (.k4 (.k4 (.k2 (.i 17 (vt (ix a0 v38)) .n))))) ?_
     refine sj ?_
     refine rk 5 (.k4 (.k4 (.k3 (.i 107 (eS 1 vt a0) .n)))) ?_
     refine jo 108 (.len 0 107) (ok_len_m rfl) ?_
     refine jk 1 (.d (.k4 (.k4 (.k4 (.i 108 (vi (a0.length : Int)) (.i 109 (vi 0) .n)))))) ?_
     refine q4 ?_
     refine ts (.k4 (.k4 (.k4 (.k (.i 109 (vi 0) .n))))) ?_
     refine TriE.loopN h (fun (t : Nat × (List (Arr2_Str × Int))) => match t with | (v41, v42) => St.mk [(0, .ptr 0 0 0), (1, vi a7), (7, .map 2), (87, eS 1 vt a0), (88, vi (a0.length : Int)), (89, vi v31), (15, vt (ix a0 v31)), (97, eS 1 vt a0), (98, vi (a0.length : Int)), (99, vi v38), (17, vt (ix a0 v38)), (107, eS 1 vt a0), (108, vi (a0.length : Int)), (109, vi v41)] [some (.row 7 [.agg [eS 1 vt a0, eS 1 vt a1, eS 4 eRoad a2, eS 3 eGrand a3, vi a4, vi a5, .map 1]]), some (.mp (mpE vi (eM eArr2_Str vi) a6)), some (.mp (mpE eArr2_Str vi v42))]) rfl ?_
     clear h
     rintro back ⟨v41, v42⟩ h
     dsimp only [diary_plan_distances_L3] at h
     refine sj ?_
     refine jo 110 (.bin .lss false 109 108) (n_lss (i := v41) (j := a0.length) rfl rfl) ?_
     refine jf (.d (.k4 (.k4 (.k4 (.k2 (.i 110 (vb (decide (v41 < a0.length))) .n)))))) ?_
     refine q1 ?_
     refine tc h (fun c11 h => ?_) (fun c11 h => ?_)
     ·refine q2 ?_
      refine TriE.seqK h (fun (v43 : (List (Arr2_Str × Int))) => St.mk [(0, .ptr 0 0 0), (1, vi a7), (7, .map 2), (87, eS 1 vt a0), (88, vi (a0.length : Int)), (89, vi v31), (15, vt (ix a0 v31)), (97, eS 1 vt a0), (98, vi (a0.length : Int)), (99, vi v38), (17, vt (ix a0 v38)), (107, eS 1 vt a0), (108, vi (a0.length : Int)), (109, vi v41)] [some (.row 7 [.agg [eS 1 vt a0, eS 1 vt a1, eS 4 eRoad a2, eS 3 eGrand a3, vi a4, vi a5, .map 1]]), some (.mp (mpE vi (eM eArr2_Str vi) a6)), some (.mp (mpE eArr2_Str vi v43))]) ?_ ?_
      ·rintro v43 h
       refine q6 ?_
       refine cK h fun c15 h => ?_
       refine jo 159 (.bin .add false 109 (ki 1)) (r_addn (i := v41) (j := 1) rfl rfl c15) ?_
       refine jk 1 (.d (.k4 (.k4 (.k4 (.k (.i 109 (vi ((v41 + 1 : Nat) : Int)) .n)))))) ?_
       exact Vs.intro sy ⟨(v41 + 1, v43), rfl, h⟩
      intro k6 h
      refine q4 ?_
      refine sj ?_
      refine jo 111 (.iaddr 1 107 109) (ok_iaddr_m (j := v41) rfl rfl rfl c11) ?_
      refine jo 112 (.load false 1 111) (ok_load_fm (v := vt (ix a0 v41)) rfl c11 rfl) ?_
      refine jk 1 (.d2 (.k4 (.k4 (.k4 (.k2 (.i 19 (vt (ix a0 v41)) .n)))))) ?_
      refine sj ?_
      refine rk 4 (.k4 (.k4 (.k4 (.k3 (.i 114 (.map 2) (.i 117 (.agg [vt (ix a0 v38), vt (ix a0 v31)]) .n)))))) ?_
      refine jo 118 (.lookup2 (.p (.int .i64 0)) true 114 117) (ok_lk2_o (l := v42) (ek := eArr2_Str) (ev := vi) (k := (Arr2_Str.mk (ix a0 v38) (ix a0 v31))) (z0 := (0 : Int)) eArr2_Str_key rfl rfl rfl rfl) ?_
      refine jk 5 (.d (.k4 (.k4 (.k4 (.k3 (.i 20 (vi (Option.getD (List.lookup (Arr2_Str.mk (ix a0 v38) (ix a0 v31)) v42) (0 : Int))) (.i 21 (vb (Option.isSome (List.lookup (Arr2_Str.mk (ix a0 v38) (ix a0 v31)) v42))) .n))))))) ?_
      refine sj ?_
      refine rk 4 (.k4 (.k4 (.k4 (.k4 (.k (.i 122 (.map 2) (.i 125 (.agg [vt (ix a0 v31), vt (ix a0 v41)]) .n))))))) ?_
      refine jo 126 (.lookup2 (.p (.int .i64 0)) true 122 125) (ok_lk2_o (l := v42) (ek := eArr2_Str) (ev := vi) (k := (Arr2_Str.mk (ix a0 v31) (ix a0 v41))) (z0 := (0 : Int)) eArr2_Str_key rfl rfl rfl rfl) ?_
      refine jk 5 (.d (.k4 (.k4 (.k4 (.k4 (.k (.i 22 (vi (Option.getD (List.lookup (Arr2_Str.mk (ix a0 v31) (ix a0 v41)) v42) (0 : Int))) (.i 23 (vb (Option.isSome (List.lookup (Arr2_Str.mk (ix a0 v31) (ix a0 v41)) v42))) .n)))))))) ?_
      refine sj ?_
      refine rk 4 (.k4 (.k4 (.k4 (.k4 (.k3 (.i 130 (.map 2) (.i 133 (.agg [vt (ix a0 v38), vt (ix a0 v41)]) .n))))))) ?_
      refine jo 134 (.lookup2 (.p (.int .i64 0)) true 130 133) (ok_lk2_o (l := v42) (ek := eArr2_Str) (ev := vi) (k := (Arr2_Str.mk (ix a0 v38) (ix a0 v41))) (z0 := (0 : Int)) eArr2_Str_key rfl rfl rfl rfl) ?_
      refine jk 5 (.d (.k4 (.k4 (.k4 (.k4 (.k3 (.i 24 (vi (Option.getD (List.lookup (Arr2_Str.mk (ix a0 v38) (ix a0 v41)) v42) (0 : Int))) (.i 25 (vb (Option.isSome (List.lookup (Arr2_Str.mk (ix a0 v38) (ix a0 v41)) v42))) .n)))))))) ?_
      refine sj ?_
      refine rk 2 (.k4 (.k4 (.k4 (.k4 (.d (.k4 (.i 138 (vb (Option.isSome (List.lookup (Arr2_Str.mk (ix a0 v38) (ix a0 v31)) v42))) .n))))))) ?_
      refine gj (vb (Option.isSome (List.lookup (Arr2_Str.mk (ix a0 v31) (ix a0 v41)) v42))) 139 (.mov 23) 138 true rfl ?_
      refine pa 140 138 139 rfl rfl ?_
      refine rk 1 (.d2 (.k4 (.k4 (.k4 (.k4 (.k (.d (.k2 (.i 139 (.cond (Option.isSome (List.lookup (Arr2_Str.mk (ix a0 v38) (ix a0 v31)) v42)) (vb (Option.isSome (List.lookup (Arr2_Str.mk (ix a0 v31) (ix a0 v41)) v42)))) (.i 141 (vb ((Option.isSome (List.lookup (Arr2_Str.mk (ix a0 v38) (ix a0 v31)) v42)) && (Option.isSome (List.lookup (Arr2_Str.mk (ix a0 v31) (ix a0 v41)) v42)))) .n)))))))))) ?_
      refine gj (vb (Option.isSome (List.lookup (Arr2_Str.mk (ix a0 v38) (ix a0 v41)) v42))) 142 (.mov 25) 141 true rfl ?_
      refine gk (vb (!(Option.isSome (List.lookup (Arr2_Str.mk (ix a0 v38) (ix a0 v41)) v42)))) 143 (.un .not 142) 141 true rfl (fun hg => (.cons hg .nil)) ?_
      refine gk (vb (!(Option.isSome (List.lookup (Arr2_Str.mk (ix a0 v38) (ix a0 v41)) v42)))) 144 (.mov 143) 141 true rfl (fun hg => (.cons hg .nil)) ?_
      refine gj (vi (Option.getD (List.lookup (Arr2_Str.mk (ix a0 v38) (ix a0 v31)) v42) (0 : Int))) 145 (.mov 20) 144 false rfl ?_
      refine gj (vi (Option.getD (List.lookup (Arr2_Str.mk (ix a0 v31) (ix a0 v41)) v42) (0 : Int))) 146 (.mov 22) 144 false rfl ?_
      refine cK h fun c12 h => ?_
      refine gv 147 (.bin .add false 145 146) 144 false rfl (fun hg => (r_add rfl rfl (gor c12 hg))) (fun hg => (.cons hg (.cons hg .nil))) ?_
      refine gj (vi (Option.getD (List.lookup (Arr2_Str.mk (ix a0 v38) (ix a0 v41)) v42) (0 : Int))) 148 (.mov 24) 144 false rfl ?_
      refine gk (vb (decide (((Option.getD (List.lookup (Arr2_Str.mk (ix a0 v38) (ix a0 v31)) v42) (0 : Int)) + (Option.getD (List.lookup (Arr2_Str.mk (ix a0 v31) (ix a0 v41)) v42) (0 : Int))) < (Option.getD (List.lookup (Arr2_Str.mk (ix a0 v38) (ix a0 v41)) v42) (0 : Int))))) 149 (.bin .lss false 147 148) 144 false rfl (fun hg => (.cons hg (.cons hg .nil))) ?_
      refine RegJ.op (Op1.org (g := (Option.isSome (List.lookup (Arr2_Str.mk (ix a0 v38) (ix a0 v31)) v42)) && (Option.isSome (List.lookup (Arr2_Str.mk (ix a0 v31) (ix a0 v41)) v42))) (cy (IG 150 (.pick 144 (.c (.p (.bool true))) 149) 141 true)) rfl rfl rfl (fun hg => by first | exact hokO2 hg | exact hokO3 hg | exact hokO1 | exact hokO0 | (rw [hg]; simp) | simp_all)) ?_
      refine pa 151 141 150 rfl rfl ?_
      refine jf (.d4 (.d4 (.d2 (.k4 (.k4 (.k4 (.k4 (.k (.i 151 (vb (((Option.isSome (List.lookup (Arr2_Str.mk (ix a0 v38) (ix a0 v31)) v42)) && (Option.isSome (List.lookup (Arr2_Str.mk (ix a0 v31) (ix a0 v41)) v42))) && ((!(Option.isSome (List.lookup (Arr2_Str.mk (ix a0 v38) (ix a0 v41)) v42))) || (decide (((Option.getD (List.lookup (Arr2_Str.mk (ix a0 v38) (ix a0 v31)) v42) (0 : Int)) + (Option.getD (List.lookup (Arr2_Str.mk (ix a0 v31) (ix a0 v41)) v42) (0 : Int))) < (Option.getD (List.lookup (Arr2_Str.mk (ix a0 v38) (ix a0 v41)) v42) (0 : Int))))))) .n))))))))) ?_
      refine tc h (fun c13 h => ?_) (fun c13 h => ?_)
      ·refine q6 ?_
       refine rk 6 (.k4 (.k4 (.k4 (.k2 (.i 152 (.map 2) (.i 155 (.agg [vt (ix a0 v38), vt (ix a0 v41)]) (.i 156 (vi (Option.getD (List.lookup (Arr2_Str.mk (ix a0 v38) (ix a0 v31)) v42) (0 : Int))) (.i 157 (vi (Option.getD (List.lookup (Arr2_Str.mk (ix a0 v31) (ix a0 v41)) v42) (0 : Int))) .n)))))))) ?_
       refine cK h fun c14 h => ?_
       refine jo 158 (.bin .add false 156 157) (r_add rfl rfl c14) ?_
       refine jn (.mapset2 152 155 158) _ (ok_mset_a (l := v42) (ek := eArr2_Str) (ev := vi) (k := (Arr2_Str.mk (ix a0 v38) (ix a0 v41))) (v := (Option.getD (List.lookup (Arr2_Str.mk (ix a0 v38) (ix a0 v31)) v42) (0 : Int)) + (Option.getD (List.lookup (Arr2_Str.mk (ix a0 v31) (ix a0 v41)) v42) (0 : Int))) eArr2_Str_key rfl rfl rfl rfl) rfl rfl ?_
       refine jf (.d (.k4 (.k4 (.k4 (.k2 .n))))) ?_
       exact Vs.intro Sees.refl ⟨(mPut (Arr2_Str.mk (ix a0 v38) (ix a0 v41)) ((Option.getD (List.lookup (Arr2_Str.mk (ix a0 v38) (ix a0 v31)) v42) (0 : Int)) + (Option.getD (List.lookup (Arr2_Str.mk (ix a0 v31) (ix a0 v41)) v42) (0 : Int))) v42), rfl, h⟩
      refine q2 ?_
      exact Vs.intro sy ⟨v42, rfl, h⟩
     refine q5 ?_
     exact Vs.intro sy ⟨v42, rfl, h⟩
    refine q5 ?_
    exact Vs.intro sy ⟨v39, rfl, h⟩
   refine q5 ?_
   exact Vs.intro sy ⟨v32, rfl, h⟩
  intro k5 h
  refine sj ?_
  refine rk 5 (.k3 (.i 42 (eS 1 vt a0) .n)) ?_
  refine jo 43 (.len 0 42) (ok_len_m rfl) ?_
  refine jk 1 (.d (.k4 (.i 43 (vi (a0.length : Int)) (.i 44 (vi 0) .n)))) ?_
  refine q4 ?_
  refine ts (.k4 (.k (.i 44 (vi 0) .n))) ?_
  refine TriE.loopN h (fun (t : Nat × (List (Arr2_Str × Int))) => match t with | (v8, v9) => St.mk [(0, .ptr 0 0 0), (1, vi a7), (7, .map 2), (42, eS 1 vt a0), (43, vi (a0.length : Int)), (44, vi v8)] [some (.row 7 [.agg [eS 1 vt a0, eS 1 vt a1, eS 4 eRoad a2, eS 3 eGrand a3, vi a4, vi a5, .map 1]]), some (.mp (mpE vi (eM eArr2_Str vi) a6)), some (.mp (mpE eArr2_Str vi v9))]) rfl ?_
  clear h
  rintro back ⟨v8, v9⟩ h
  dsimp only [diary_plan_distances_L2] at h
  refine sj ?_
  refine jo 45 (.bin .lss false 44 43) (n_lss (i := v8) (j := a0.length) rfl rfl) ?_
  refine jf (.d (.k4 (.k2 (.i 45 (vb (decide (v8 < a0.length))) .n)))) ?_
  refine q1 ?_
  refine tc h (fun c4 h => ?_) (fun c4 h => ?_)
  ·refine q2 ?_
   refine TriE.seqK h (fun (v16 : (List (Arr2_Str × Int))) => St.mk [(0, .ptr 0 0 0), (1, vi a7), (7, .map 2), (42, eS 1 vt a0), (43, vi (a0.length : Int)), (44, vi v8)] [some (.row 7 [.agg [eS 1 vt a0, eS 1 vt a1, eS 4 eRoad a2, eS 3 eGrand a3, vi a4, vi a5, .map 1]]), some (.mp (mpE vi (eM eArr2_Str vi) a6)), some (.mp (mpE eArr2_Str vi v16))]) ?_ ?_
   ·rintro v16 h
    refine q6 ?_
    refine cK h fun c8 h => ?_
    refine jo 82 (.bin .add false 44 (ki 1)) (r_addn (i := v8) (j := 1) rfl rfl c8) ?_
    refine jk 1 (.d (.k4 (.k (.i 44 (vi ((v8 + 1 : Nat) : Int)) .n)))) ?_
    exact Vs.intro sy ⟨(v8 + 1, v16), rfl, h⟩
   intro k4 h
   refine q4 ?_
   refine sj ?_
   refine jo 46 (.iaddr 1 42 44) (ok_iaddr_m (j := v8) rfl rfl rfl c4) ?_
   refine jo 47 (.load false 1 46) (ok_load_fm (v := vt (ix a0 v8)) rfl c4 rfl) ?_
   refine jk 1 (.d2 (.k4 (.k2 (.i 9 (vt (ix a0 v8)) .n)))) ?_
   refine sj ?_
   refine rk 4 (.k4 (.k3 (.i 48 (.map 2) (.i 51 (.agg [vt (ix a0 v8), vt (ix a0 v8)]) .n)))) ?_
   refine jn (.mapset2 48 51 (ki 0)) _ (ok_mset_a (l := v9) (ek := eArr2_Str) (ev := vi) (k := (Arr2_Str.mk (ix a0 v8) (ix a0 v8))) (v := 0) eArr2_Str_key rfl rfl rfl rfl) rfl rfl ?_
   refine jf (.k4 (.k3 .n)) ?_
   refine sj ?_
   refine rk 5 (.k4 (.k3 (.i 56 (eS 1 vt a0) .n))) ?_
   refine jo 57 (.len 0 56) (ok_len_m rfl) ?_
   refine jk 1 (.d (.k4 (.k4 (.i 57 (vi (a0.length : Int)) (.i 58 (vi 0) .n))))) ?_
   refine q4 ?_
   refine ts (.k4 (.k4 (.k (.i 58 (vi 0) .n)))) ?_
   refine TriE.loopN h (fun (t : Nat × (List (Arr2_Str × Int))) => match t with | (v12, v13) => St.mk [(0, .ptr 0 0 0), (1, vi a7), (7, .map 2), (42, eS 1 vt a0), (43, vi (a0.length : Int)), (44, vi v8), (9, vt (ix a0 v8)), (56, eS 1 vt a0), (57, vi (a0.length : Int)), (58, vi v12)] [some (.row 7 [.agg [eS 1 vt a0, eS 1 vt a1, eS 4 eRoad a2, eS 3 eGrand a3, vi a4, vi a5, .map 1]]), some (.mp (mpE vi (eM eArr2_Str vi) a6)), some (.mp (mpE eArr2_Str vi v13))]) rfl ?_
   clear h
   rintro back ⟨v12, v13⟩ h
   dsimp only [diary_plan_distances_L1] at h
   refine sj ?_
   refine jo 59 (.bin .lss false 58 57) (n_lss (i := v12) (j := a0.length) rfl rfl) ?_
   refine jf (.d (.k4 (.k4 (.k2 (.i 59 (vb (decide (v12 < a0.length))) .n))))) ?_
   refine q1 ?_
   refine tc h (fun c5 h => ?_) (fun c5 h => ?_)
   ·refine q2 ?_
    refine TriE.seqK h (fun (v15 : (List (Arr2_Str × Int))) => St.mk [(0, .ptr 0 0 0), (1, vi a7), (7, .map 2), (42, eS 1 vt a0), (43, vi (a0.length : Int)), (44, vi v8), (9, vt (ix a0 v8)), (56, eS 1 vt a0), (57, vi (a0.length : Int)), (58, vi v12)] [some (.row 7 [.agg [eS 1 vt a0, eS 1 vt a1, eS 4 eRoad a2, eS 3 eGrand a3, vi a4, vi a5, .map 1]]), some (.mp (mpE vi (eM eArr2_Str vi) a6)), some (.mp (mpE eArr2_Str vi v15))]) ?_ ?_
    ·rintro v15 h
     refine q6 ?_
     refine cK h fun c7 h => ?_
     refine jo 81 (.bin .add false 58 (ki 1)) (r_addn (i := v12) (j := 1) rfl rfl c7) ?_
     refine jk 1 (.d (.k4 (.k4 (.k (.i 58 (vi ((v12 + 1 : Nat) : Int)) .n))))) ?_
     exact Vs.intro sy ⟨(v12 + 1, v15), rfl, h⟩
    intro k3 h
    refine q4 ?_
    refine sj ?_
    refine jo 60 (.iaddr 1 56 58) (ok_iaddr_m (j := v12) rfl rfl rfl c5) ?_
    refine jo 61 (.load false 1 60) (ok_load_fm (v := vt (ix a0 v12)) rfl c5 rfl) ?_
    refine jk 1 (.d2 (.k4 (.k4 (.k2 (.i 11 (vt (ix a0 v12)) .n))))) ?_
    refine sj ?_
    refine rk 4 (.k4 (.k4 (.k3 (.i 63 (.ptr 0 0 0) (.i 64 (vt (ix a0 v8)) (.i 65 (vt (ix a0 v12)) (.i 66 (vi a7) .n))))))) ?_
    refine bK h fun y14 hy14 h => ?_
    refine jco (.tup [vi y14.1, vb y14.2]) 67 [63, 64, 65, 66] (diary_plan_joined_ok n a0 a1 a2 a3 a4 a5 a6 (ix a0 v8) (ix a0 v12) a7 y14 hy14) [0, 1] rfl (.cons rfl (.same (mp_ren vi_frz (eM_frz eArr2_Str vi) _ _) .nil)) (.cons rfl (.same (mp_ren vi_frz (eM_frz eArr2_Str vi) _ _) .nil)) rfl ?_
    refine jk 5 (.d (.k4 (.k4 (.k3 (.i 12 (vi y14.1) (.i 13 (vb y14.2) .n)))))) ?_
    refine sj ?_
    refine rk 2 (.k4 (.k4 (.k4 (.i 71 (vb y14.2) .n)))) ?_
    refine gj (vt (ix a0 v8)) 72 (.mov 9) 71 true rfl ?_
    refine gj (vt (ix a0 v12)) 73 (.mov 11) 71 true rfl ?_
    refine gk (vb (!((ix a0 v8) == (ix a0 v12)))) 74 (.bin .neq false 72 73) 71 true rfl (fun hg => (.cons hg (.cons hg .nil))) ?_
    refine pa 75 71 74 rfl rfl ?_
    refine jf (.d4 (.k4 (.k4 (.k4 (.i 75 (vb (y14.2 && (!((ix a0 v8) == (ix a0 v12))))) .n))))) ?_
    refine tc h (fun c6 h => ?_) (fun c6 h => ?_)
    ·refine q6 ?_
     refine rk 5 (.k4 (.k4 (.k2 (.i 76 (.map 2) (.i 79 (.agg [vt (ix a0 v8), vt (ix a0 v12)]) (.i 80 (vi y14.1) .n)))))) ?_
     refine jn (.mapset2 76 79 80) _ (ok_mset_a (l := v13) (ek := eArr2_Str) (ev := vi) (k := (Arr2_Str.mk (ix a0 v8) (ix a0 v12))) (v := y14.1) eArr2_Str_key rfl rfl rfl rfl) rfl rfl ?_
     refine jf (.k4 (.k4 (.k2 .n))) ?_
     exact Vs.intro Sees.refl ⟨(mPut (Arr2_Str.mk (ix a0 v8) (ix a0 v12)) y14.1 v13), rfl, h⟩
    refine q2 ?_
    exact Vs.intro sy ⟨v13, rfl, h⟩
   refine q5 ?_
   exact Vs.intro sy ⟨v13, rfl, h⟩
  refine q5 ?_
  exact Vs.intro sy ⟨v9, rfl, h⟩
 intro k1 k2 h
 refine q6 ?_
 refine rk 5 (.k2 (.i 30 (.map 1) (.i 31 (vi a7) .n))) ?_
 rcases Bool.eq_false_or_eq_true ((Option.isSome (List.lookup a7 a6))) with c1 | c1
 ·have h := cond_t h c1
  refine jo 32 (.lookup false (.p (.map none)) true 30 31) (ok_lkS_i (l := a6) (ev := (eM eArr2_Str vi)) (z0 := ([] : List (Arr2_Str × Int))) rfl rfl rfl c1) ?_
  refine jk 5 (.d (.k2 (.i 5 (eM eArr2_Str vi (Option.getD (List.lookup a7 a6) ([] : List (Arr2_Str × Int)))) (.i 6 (vb true) .n)))) ?_
  exact Vs.intro Sees.refl (.inl ⟨(), rfl, h⟩)
 have h := cond_f h c1
 refine jo 32 (.lookup false (.p (.map none)) true 30 31) (ok_lkN_i (l := a6) (ev := (eM eArr2_Str vi)) rfl rfl rfl c1) ?_
 refine jk 5 (.d (.k2 (.i 5 (.p (.map none)) (.i 6 (vb false) .n)))) ?_
 exact Vs.intro Sees.refl (.inr ⟨(), rfl, h⟩)
theorem diary_plan_distance_ok (n : Nat) (a0 : List Str) (a1 : List Str) (a2 : List Road) (a3 : List Grand) (a4 : Int) (a5 : Int) (a6 : List (Int × List (Arr2_Str × Int))) (a7 : Str) (a8 : Str) (a9 : Int) (r : Int × Bool × (List (Int × List (Arr2_Str × Int)))) (h : diary_plan_distance n a0 a1 a2 a3 a4 a5 a6 a7 a8 a9 = some r) : FnL Tryz.prog 98 [.ptr 0 0 0, vt a7, vt a8, vi a9] [some (.row 7 [.agg [eS 1 vt a0, eS 1 vt a1, eS 4 eRoad a2, eS 3 eGrand a3, vi a4, vi a5, .map 1]]), some (.mp (mpE vi (eM eArr2_Str vi) a6))] (.tup [vi r.1, vb r.2.1]) [some (.row 7 [.agg [eS 1 vt a0, eS 1 vt a1, eS 4 eRoad a2, eS 3 eGrand a3, vi a4, vi a5, .map 1]]), some (.mp (mpE vi (eM eArr2_Str vi) r.2.2))] := by
 dsimp only [diary_plan_distance] at h
 refine fob [8, 9] Tryz.call98 Tryz.func98 rfl (.cons rfl (.cons rfl .nil)) ?_
 refine sk .a ?_
 refine sj ?_
 refine rk 2 (.d (.k2 (.i 13 (.ptr 0 0 0) (.i 14 (vi a9) .n)))) ?_
 refine bK h fun y1 hy1 h => ?_
 refine jco (eM eArr2_Str vi y1.1) 15 [13, 14] (diary_plan_distances_ok n a0 a1 a2 a3 a4 a5 a6 a9 y1 hy1) [0, 1] rfl (.cons rfl (.same (mp_ren vi_frz (eM_frz eArr2_Str vi) _ _) .nil)) (.cons rfl (.same (mp_ren vi_frz (eM_frz eArr2_Str vi) _ _) .nil)) rfl ?_
 refine rk 3 (.k (.i 18 (.agg [vt a7, vt a8]) .n)) ?_
 refine jo 19 (.lookup2 (.p (.int .i64 0)) true 15 18) (ok_lk2_f (l := y1.1) (ek := eArr2_Str) (ev := vi) (k := (Arr2_Str.mk a7 a8)) (z0 := (0 : Int)) eArr2_Str_key rfl rfl rfl) ?_
 refine jk 5 (.i 10 (vi (Option.getD (List.lookup (Arr2_Str.mk a7 a8) y1.1) (0 : Int))) (.i 11 (vb (Option.isSome (List.lookup (Arr2_Str.mk a7 a8) y1.1))) .n)) ?_
 refine sk (.i 8 (vi (Option.getD (List.lookup (Arr2_Str.mk a7 a8) y1.1) (0 : Int))) (.i 9 (vb (Option.isSome (List.lookup (Arr2_Str.mk a7 a8) y1.1))) .n)) ?_
 refine q3 ?_
 have h := si h
 subst h
 exact DoneS.ret Sees.refl rfl rfl
set_option maxHeartbeats 1000000 in
theorem diary_Distances_ok (n : Nat) (a0 : Diary) (a1 : Str) (a2 : Int) (r : Int × (List Int)) (h : diary_Distances n a0 a1 a2 = some r) : FnL Tryz.prog 46 [.agg [eS 1 vt a0.Places, eS 1 vt a0.Technicians, eS 4 eRoad a0.Roads, eS 3 eGrand a0.Grands, vi a0.Change, vi a0.Lasts], vt a1, vi a2] [] (.tup [eS 1 vi r.2, vi r.1]) [] := by
 dsimp only [diary_Distances] at h
 refine fo [6, 7] Tryz.call46 Tryz.func46 rfl ?_
 refine sko (.d (.k2 (.i 3 (.ptr 0 0 0) .n))) [some (.row 6 [.agg [eS 1 vt a0.Places, eS 1 vt a0.Technicians, eS 4 eRoad a0.Roads, eS 3 eGrand a0.Grands, vi a0.Change, vi a0.Lasts]])] ?_
 refine TriE.seqK2 h (fun (v4 : Int) => St.mk [(1, vt a1), (2, vi a2), (3, .ptr 0 0 0), (8, .p (.pointer none)), (9, vi v4)] [some (.row 6 [.agg [eS 1 vt a0.Places, eS 1 vt a0.Technicians, eS 4 eRoad a0.Roads, eS 3 eGrand a0.Grands, vi a0.Change, vi a0.Lasts]])]) (fun (_ : Unit) => St.mk [(1, vt a1), (2, vi a2), (3, .ptr 0 0 0), (8, .ptr 2 0 0), (9, vi 0)] [some (.row 6 [.agg [eS 1 vt a0.Places, eS 1 vt a0.Technicians, eS 4 eRoad a0.Roads, eS 3 eGrand a0.Grands, vi a0.Change, vi a0.Lasts]]), some (.mp (mpE vi (eM eArr2_Str vi) ([] : List (Int × List (Arr2_Str × Int))))), some (.row 7 [.agg [eS 1 vt a0.Places, eS 1 vt a0.Technicians, eS 4 eRoad a0.Roads, eS 3 eGrand a0.Grands, vi a0.Change, vi a0.Lasts, .map 1]])]) ?_ ?_ ?_
 ·rintro v4 h
  refine q7 ?_
  refine sk (.k4 (.k (.i 20 (vb (v4 != (0 : Int))) .n))) ?_
  refine tc h (fun c1 h => ?_) (fun c1 h => ?_)
  ·refine sk (.i 6 .emp (.i 7 (vi v4) .n)) ?_
   refine q3 ?_
   have h := si h
   subst h
   exact DoneS.ret (S' := ⟨[(6, eS 1 vi ([] : List Int)), (7, vi v4)], []⟩) (Sees.trans (Sees.vco (fr' := [(6, eS 1 vi ([] : List Int)), (7, vi v4)]) (.cons .sl (.cons .same .nil))) (sc [] (by decide) (by kernel_rfl) ObRen.nil rfl rfl)) rfl rfl
  refine sj ?_
  refine rk 2 (.k4 (.i 25 (.p (.pointer none)) (.i 26 (vt a1) .n))) ?_
  cases h
 ·rintro ⟨⟩ h
  refine q7 ?_
  refine sk (.k4 (.k (.i 20 (vb false) .n))) ?_
  refine TriE.cond (b := false) rfl (fun c2 => ?_) (fun c2 => ?_)
  ·cases c2
  refine sj ?_
  refine rk 2 (.k4 (.i 25 (.ptr 2 0 0) (.i 26 (vt a1) .n))) ?_
  refine bK h fun y5 hy5 h => ?_
  refine jco (vb y5) 27 [25, 26] (diary_plan_isPlace_2_ok n a0.Places a0.Technicians a0.Roads a0.Grands a0.Change a0.Lasts ([] : List (Int × List (Arr2_Str × Int))) a1 y5 hy5) [2, 1] rfl (.cons rfl (.same (mp_ren vi_frz (eM_frz eArr2_Str vi) _ _) .nil)) (.cons rfl (.same (mp_ren vi_frz (eM_frz eArr2_Str vi) _ _) .nil)) rfl ?_
  refine jk 2 (.d (.k4 (.i 24 (vb (!y5)) .n))) ?_
  refine tc h (fun c3 h => ?_) (fun c3 h => ?_)
  ·refine sk (.i 6 .emp (.i 7 (vi 6) .n)) ?_
   refine q3 ?_
   have h := si h
   subst h
   exact DoneS.ret (S' := ⟨[(6, eS 1 vi ([] : List Int)), (7, vi 6)], []⟩) (Sees.trans (Sees.vco (fr' := [(6, eS 1 vi ([] : List Int)), (7, vi 6)]) (.cons .sl (.cons .same .nil))) (sc [] (by decide) (by kernel_rfl) ObRen.nil rfl rfl)) rfl rfl
  refine sj ?_
  refine rk 1 (.k4 (.i 30 (vi a2) .n)) ?_
  refine bK h fun y6 hy6 h => ?_
  refine jc 31 [30] (diary_isWidth_ok n a2 y6 hy6) ?_
  refine jk 2 (.d (.k4 (.i 29 (vb (!((decide (1 ≤ a2)) && (decide (a2 ≤ 10000))))) .n))) ?_
  refine tc h (fun c4 h => ?_) (fun c4 h => ?_)
  ·refine sk (.i 6 .emp (.i 7 (vi 2) .n)) ?_
   refine q3 ?_
   have h := si h
   subst h
   exact DoneS.ret (S' := ⟨[(6, eS 1 vi ([] : List Int)), (7, vi 2)], []⟩) (Sees.trans (Sees.vco (fr' := [(6, eS 1 vi ([] : List Int)), (7, vi 2)]) (.cons .sl (.cons .same .nil))) (sc [] (by decide) (by kernel_rfl) ObRen.nil rfl rfl)) rfl rfl
  refine q2 ?_
  refine sk (.k4 (.i 10 .emp .n)) ?_
  refine TriE.seqK h (fun (v14 : (List Int)) => St.mk [(10, .own 0 0 v14.length)] [some (.row 1 (List.map vi v14))]) ?_ ?_
  ·rintro v14 h
   refine sk (.i 6 (.own 0 0 v14.length) (.i 7 (vi 0) .n)) ?_
   refine q3 ?_
   have h := si h
   subst h
   exact DoneS.ret (S' := ⟨[(6, eS 1 vi v14), (7, vi 0)], []⟩) (Sees.trans (Sees.freeze 0 (fr' := [(6, eS 1 vi v14), (7, vi 0)]) (ob' := [none]) rfl (frz_row vi_frzE _) (.cons (frz_full rfl) (.cons (.refl _) .nil)) rfl) (sc [] (by decide) (by kernel_rfl) ObRen.nil rfl rfl)) rfl rfl
  intro k4 h
  refine sj ?_
  refine rk 2 (.k2 (.d (.k2 (.i 34 (eS 1 vt a0.Places) .n)))) ?_
  refine jo 35 (.len 0 34) (ok_len_m rfl) ?_
  refine jk 1 (.d (.k4 (.k (.i 35 (vi ((a0.Places.length : Nat) : Int)) (.i 36 (vi 0) .n))))) ?_
  refine q4 ?_
  refine TriE.sees (S' := ⟨[(1, vt a1), (2, vi a2), (8, .ptr 1 0 0), (10, .own 2 0 ([] : List Int).length), (34, eS 1 vt a0.Places), (35, vi ((a0.Places.length : Nat) : Int)), (36, vi 0)], [some (.mp (mpE vi (eM eArr2_Str vi) ([] : List (Int × List (Arr2_Str × Int))))), some (.row 7 [.agg [eS 1 vt a0.Places, eS 1 vt a0.Technicians, eS 4 eRoad a0.Roads, eS 3 eGrand a0.Grands, vi a0.Change, vi a0.Lasts, .map 0]]), some (.row 1 (List.map vi ([] : List Int)))]⟩) (Sees.trans (Sees.co (fr' := [(1, vt a1), (2, vi a2), (8, .ptr 2 0 0), (10, .own 3 0 0), (34, eS 1 vt a0.Places), (35, vi ((a0.Places.length : Nat) : Int)), (36, vi 0)]) (ob' := [some (.row 6 [.agg [eS 1 vt a0.Places, eS 1 vt a0.Technicians, eS 4 eRoad a0.Roads, eS 3 eGrand a0.Grands, vi a0.Change, vi a0.Lasts]]), some (.mp (mpE vi (eM eArr2_Str vi) ([] : List (Int × List (Arr2_Str × Int))))), some (.row 7 [.agg [eS 1 vt a0.Places, eS 1 vt a0.Technicians, eS 4 eRoad a0.Roads, eS 3 eGrand a0.Grands, vi a0.Change, vi a0.Lasts, .map 1]])]) (.cons .same (.cons .same (.cons .same (.cons .own (.cons .same (.cons .same (.cons .same .nil))))))) (.same (.same (.same .nil))) 1) (sc [1, 2, 3] (by decide) (by kernel_rfl) (obRen_mp vi_frz (eM_frz eArr2_Str vi) rfl (.cons rfl (obRen_row vi_frz rfl .nil))) rfl rfl)) ?_
  refine TriE.loopN h (fun (t : (List Int) × Nat × (List (Int × List (Arr2_Str × Int)))) => match t with | (v9, v10, v11) => St.mk [(1, vt a1), (2, vi a2), (8, .ptr 1 0 0), (10, .own 2 0 v9.length), (34, eS 1 vt a0.Places), (35, vi ((a0.Places.length : Nat) : Int)), (36, vi v10)] [some (.mp (mpE vi (eM eArr2_Str vi) v11)), some (.row 7 [.agg [eS 1 vt a0.Places, eS 1 vt a0.Technicians, eS 4 eRoad a0.Roads, eS 3 eGrand a0.Grands, vi a0.Change, vi a0.Lasts, .map 0]]), some (.row 1 (List.map vi v9))]) rfl ?_
  clear h
  rintro back ⟨v9, v10, v11⟩ h
  dsimp only [diary_Distances_L1] at h
  refine sj ?_
  refine jo 37 (.bin .lss false 36 35) (n_lss (i := v10) (j := a0.Places.length) rfl rfl) ?_
  refine jf (.d (.k4 (.k3 (.i 37 (vb (decide (v10 < a0.Places.length))) .n)))) ?_
  refine q1 ?_
  refine tc h (fun c5 h => ?_) (fun c5 h => ?_)
  ·refine q2 ?_
   refine q7 ?_
   refine sj ?_
   refine jo 38 (.iaddr 1 34 36) (ok_iaddr_m (j := v10) rfl rfl rfl c5) ?_
   refine jo 39 (.load false 1 38) (ok_load_fm (v := vt (ix a0.Places v10)) rfl c5 rfl) ?_
   refine jk 1 (.d2 (.k4 (.k3 (.i 12 (vt (ix a0.Places v10)) .n)))) ?_
   refine sj ?_
   refine rk 4 (.k4 (.k3 (.i 41 (.ptr 1 0 0) (.i 42 (vt a1) (.i 43 (vt (ix a0.Places v10)) (.i 44 (vi a2) .n)))))) ?_
   refine bK h fun y12 hy12 h => ?_
   refine jco (.tup [vi y12.1, vb y12.2.1]) 45 [41, 42, 43, 44] (diary_plan_distance_ok n a0.Places a0.Technicians a0.Roads a0.Grands a0.Change a0.Lasts v11 a1 (ix a0.Places v10) a2 y12 hy12) [1, 0] rfl (.cons rfl (.same (mp_ren vi_frz (eM_frz eArr2_Str vi) _ _) .nil)) (.cons rfl (.same (mp_ren vi_frz (eM_frz eArr2_Str vi) _ _) .nil)) rfl ?_
   refine jk 5 (.d (.k4 (.k3 (.i 13 (vi y12.1) (.i 14 (vb y12.2.1) .n))))) ?_
   refine TriE.seqK h (fun (v13 : Int) => St.mk [(1, vt a1), (2, vi a2), (8, .ptr 1 0 0), (10, .own 2 0 v9.length), (34, eS 1 vt a0.Places), (35, vi ((a0.Places.length : Nat) : Int)), (36, vi v10), (13, vi v13)] [some (.mp (mpE vi (eM eArr2_Str vi) y12.2.2)), some (.row 7 [.agg [eS 1 vt a0.Places, eS 1 vt a0.Technicians, eS 4 eRoad a0.Roads, eS 3 eGrand a0.Grands, vi a0.Change, vi a0.Lasts, .map 0]]), some (.row 1 (List.map vi v9))]) ?_ ?_
   ·rintro v13 h
    refine q6 ?_
    refine rko 3 (.k3 (.d (.k3 (.i 50 (.own 2 0 v9.length) (.i 52 (.own 3 0 1) .n))))) [some (.mp (mpE vi (eM eArr2_Str vi) y12.2.2)), some (.row 7 [.agg [eS 1 vt a0.Places, eS 1 vt a0.Technicians, eS 4 eRoad a0.Roads, eS 3 eGrand a0.Grands, vi a0.Change, vi a0.Lasts, .map 0]]), some (.row 1 (List.map vi v9)), some (.row 1 [vi v13])] ?_
    refine cK h fun c7 h => ?_
    refine jx 53 (.app 1 8 50 52) _ (ok_app_own (l := v9) (l2 := ([v13] : List Int)) (e := vi) (u := .own 3 0 1) rfl rfl rfl rfl rfl c7) rfl rfl ?_
    refine jk 1 (.d (.k4 (.k2 (.i 10 (.own 4 0 ((v9 ++ ([v13] : List Int)).length)) .n)))) ?_
    refine q6 ?_
    refine cK h fun c8 h => ?_
    refine jo 54 (.bin .add false 36 (ki 1)) (r_addn (i := v10) (j := 1) rfl rfl c8) ?_
    refine jk 1 (.d (.k4 (.k (.d (.k (.i 36 (vi ((v10 + 1 : Nat) : Int)) .n)))))) ?_
    exact Vs.intro (sc [0, 1, 4] (by decide) (by kernel_rfl) (obRen_mp vi_frz (eM_frz eArr2_Str vi) rfl (.cons rfl (obRen_row vi_frz rfl .nil))) rfl rfl) ⟨((v9 ++ ([v13] : List Int)), v10 + 1, y12.2.2), rfl, h⟩
   intro k3 h
   refine sk (.k4 (.k4 (.i 49 (vb (!y12.2.1)) .n))) ?_
   refine tc h (fun c6 h => ?_) (fun c6 h => ?_)
   ·refine tk (.k4 (.k3 (.i 13 (vi (-1)) .n))) ?_
    exact Vs.intro Sees.refl ⟨(-1), rfl, h⟩
   refine q2 ?_
   exact Vs.intro sy ⟨y12.1, rfl, h⟩
  refine q5 ?_
  exact Vs.intro (sc [2] (by decide) (by kernel_rfl) (obRen_row vi_frz rfl .nil) rfl rfl) ⟨v9, rfl, h⟩
 intro k1 k2 h
 refine q6 ?_
 refine rk 1 (.k3 (.i 16 (.agg [eS 1 vt a0.Places, eS 1 vt a0.Technicians, eS 4 eRoad a0.Roads, eS 3 eGrand a0.Grands, vi a0.Change, vi a0.Lasts]) .n)) ?_
 refine bK h fun y1 hy1 h => ?_
 rcases y1 with y1 | y1
 ·dsimp only at h
  refine jc 17 [16] (diary_open_ok n a0 (Sum.inl y1) hy1) ?_
  refine jk 5 (.d (.k3 (.i 8 (.p (.pointer none)) (.i 9 (vi y1) .n)))) ?_
  exact Vs.intro Sees.refl (.inl ⟨y1, rfl, h⟩)
 dsimp only at h
 refine jco (.tup [.ptr 2 0 0, vi 0]) 17 [16] (diary_open_ok n a0 (Sum.inr y1) hy1) [] rfl ObsRen.nil (.same (mp_ren vi_frz (eM_frz eArr2_Str vi) _ _) (.cons rfl .nil)) rfl ?_
 refine jk 5 (.d (.k3 (.i 8 (.ptr 2 0 0) (.i 9 (vi 0) .n)))) ?_
 exact Vs.intro Sees.refl (.inr ⟨(), rfl, h⟩)
theorem agraffelaw09_Evening_ok (n : Nat)  (r : Unit) (h : agraffelaw09_Evening n  = some r) : FnL Tryz.prog 49 [] [] (eS 7 eItem ([(Item.mk 1 0 40 ([103] : Str) ([104, 97, 108, 108] : Str) ([] : Str) 0), (Item.mk 0 50 110 ([103] : Str) ([104, 97, 108, 108] : Str) ([97, 110, 110] : Str) 0), (Item.mk 2 200 300 ([103] : Str) ([104, 97, 108, 108] : Str) ([] : Str) 0)] : List Item)) [] := by
 dsimp only [agraffelaw09_Evening] at h
 refine fo [0] Tryz.call49 Tryz.func49 rfl ?_
 refine sk .n ?_
 refine sko (.i 0 (.own 0 0 3) .n) [some (.row 7 [.agg [vi 1, vi 0, vi 40, vt ([103] : Str), vt ([104, 97, 108, 108] : Str), vt ([] : Str), vi 0], .agg [vi 0, vi 50, vi 110, vt ([103] : Str), vt ([104, 97, 108, 108] : Str), vt ([97, 110, 110] : Str), vi 0], .agg [vi 2, vi 200, vi 300, vt ([103] : Str), vt ([104, 97, 108, 108] : Str), vt ([] : Str), vi 0]])] ?_
 refine q3 ?_
 have h := si h
 subst h
 exact DoneS.ret (S' := ⟨[(0, eS 7 eItem ([(Item.mk 1 0 40 ([103] : Str) ([104, 97, 108, 108] : Str) ([] : Str) 0), (Item.mk 0 50 110 ([103] : Str) ([104, 97, 108, 108] : Str) ([97, 110, 110] : Str) 0), (Item.mk 2 200 300 ([103] : Str) ([104, 97, 108, 108] : Str) ([] : Str) 0)] : List Item))], []⟩) (Sees.trans (Sees.freeze 0 (fr' := [(0, eS 7 eItem ([(Item.mk 1 0 40 ([103] : Str) ([104, 97, 108, 108] : Str) ([] : Str) 0), (Item.mk 0 50 110 ([103] : Str) ([104, 97, 108, 108] : Str) ([97, 110, 110] : Str) 0), (Item.mk 2 200 300 ([103] : Str) ([104, 97, 108, 108] : Str) ([] : Str) 0)] : List Item))]) (ob' := [none]) rfl (frzs_cons rfl (frzs_cons rfl (frzs_cons rfl frzs_nil))) (.cons (.own rfl (Nat.le_of_ble_eq_true rfl)) .nil) rfl) (sc [] (by decide) (by kernel_rfl) ObRen.nil rfl rfl)) rfl rfl
theorem diary_plan_accept_ok (n : Nat) (a0 : List Item) (r : Int × Int) (h : diary_plan_accept n a0 = some r) : FnL Tryz.prog 99 [.p (.pointer none), eS 7 eItem a0] [] (.tup [vi r.1, vi r.2]) [] := by
 dsimp only [diary_plan_accept] at h
 refine fo [4, 5] Tryz.call99 Tryz.func99 rfl ?_
 refine sk .a ?_
 refine q1 ?_
 refine sj ?_
 refine rk 1 (.k2 (.i 12 (eS 7 eItem a0) .n)) ?_
 refine jo 13 (.len 0 12) (ok_len_m rfl) ?_
 refine jo 14 (.bin .gtr false 13 (ki 100)) (n_gtr (i := a0.length) (j := 100) rfl rfl) ?_
 refine jf (.d2 (.k2 (.i 14 (vb (decide (100 < a0.length))) .n))) ?_
 refine tc h (fun c1 h => ?_) (fun c1 h => ?_)
 ·refine sk (.i 4 (vi 0) (.i 5 (vi 8) .n)) ?_
  refine q3 ?_
  have h := si h
  subst h
  exact DoneS.ret Sees.refl rfl rfl
 refine q2 ?_
 refine TriE.seqK h (fun (_ : Unit) => St.mk [] []) ?_ ?_
 ·rintro ⟨⟩ h
  refine sk (.i 4 (vi (-1)) (.i 5 (vi 0) .n)) ?_
  refine q3 ?_
  have h := si h
  subst h
  exact DoneS.ret Sees.refl rfl rfl
 intro k1 h
 refine sj ?_
 refine rk 1 (.k2 (.i 15 (eS 7 eItem a0) .n)) ?_
 refine jo 16 (.len 0 15) (ok_len_m rfl) ?_
 refine jk 1 (.d (.k3 (.i 16 (vi (a0.length : Int)) (.i 17 (vi 0) .n)))) ?_
 refine q4 ?_
 refine TriE.loopN h (fun (_ : Unit) => St.mk [(0, .p (.pointer none)), (1, eS 7 eItem a0), (15, eS 7 eItem a0), (16, vi (a0.length : Int)), (17, vi 0)] []) rfl ?_
 clear h
 rintro back ⟨⟩ h
 dsimp only [diary_plan_accept_L1] at h
 refine sj ?_
 refine jo 18 (.bin .lss false 17 16) (n_lss (i := 0) (j := a0.length) rfl rfl) ?_
 refine jf (.d (.k4 (.k (.i 18 (vb (decide (0 < a0.length))) .n)))) ?_
 refine q1 ?_
 refine tc h (fun c2 h => ?_) (fun c2 h => ?_)
 ·refine q2 ?_
  refine q7 ?_
  refine sj ?_
  refine rk 1 (.k4 (.k (.i 19 (vi 0) .n))) ?_
  refine jo 20 (.iaddr 7 15 17) (ok_iaddr_m (j := 0) rfl rfl rfl c2) ?_
  refine jo 21 (.load true 7 20) (ok_load_fm (v := .agg [vi ((ix a0 0).Kind), vi ((ix a0 0).From), vi ((ix a0 0).To), vt ((ix a0 0).Grand), vt ((ix a0 0).Place), vt ((ix a0 0).Who), vi ((ix a0 0).Deposit)]) rfl c2 rfl) ?_
  refine jko 3 (.d2 (.k4 (.k (.i 7 (.ptr 0 0 0) (.i 6 (vi 0) .n))))) [some (.row 7 [.agg [vi ((ix a0 0).Kind), vi ((ix a0 0).From), vi ((ix a0 0).To), vt ((ix a0 0).Grand), vt ((ix a0 0).Place), vt ((ix a0 0).Who), vi ((ix a0 0).Deposit)]])] ?_
  refine q1 ?_
  refine q1 ?_
  refine ts .a ?_
  refine TriE.draw (by kernel_rfl) ?_
  refine dk 1 (.i 22 (.p (.pointer none)) .a) ?_
  cases h
 refine q5 ?_
 exact Vs.intro sy ⟨(), rfl, h⟩
theorem diary_grand_f1_ok (n : Nat) (a0 : Grand) (a1 : Str) (r : Unit) (h : diary_grand_f1 n a0 a1 = some r) : FnL Tryz.prog 201 [.agg [vt a0.Name, vt a0.Place, vi a0.Width], .ptr 0 0 0] [some (.row 1 [vt a1])] (vb (a0.Name == a1)) [some (.row 1 [vt a1])] := by
 dsimp only [diary_grand_f1] at h
 refine fob [3] Tryz.call201 Tryz.func201 rfl (.cons rfl .nil) ?_
 refine sko (.d (.k (.i 2 (.ptr 1 0 0) .n))) [some (.row 1 [vt a1]), some (.row 3 [.agg [vt a0.Name, vt a0.Place, vi a0.Width]])] ?_
 refine sk (.i 3 (vb (a0.Name == a1)) .n) ?_
 refine q3 ?_
 have h := si h
 subst h
 exact DoneS.ret (S' := ⟨[(3, vb (a0.Name == a1))], [some (.row 1 [vt a1])]⟩) (sc [0] (by decide) (by kernel_rfl) (.cons rfl .nil) rfl rfl) rfl rfl
theorem slices_IndexFunc_Grand_ok (n : Nat) (a0 : List Grand) (a1 : Str) (r : Int) (h : slices_IndexFunc_Grand n a0 a1 = some r) : FnL Tryz.prog 200 [eS 3 eGrand a0, .fn (.func 201) [] [.ptr 0 0 0]] [some (.row 1 [vt a1])] (vi r) [some (.row 1 [vt a1])] := by
 dsimp only [slices_IndexFunc_Grand] at h
 refine fob [4] Tryz.call200 Tryz.func200 rfl (.cons rfl .nil) ?_
 refine sk .a ?_
 refine TriE.seqK h (fun (_ : Unit) => St.mk [] [some (.row 1 [vt a1])]) ?_ ?_
 ·rintro ⟨⟩ h
  refine sk (.i 4 (vi (-1)) .n) ?_
  refine q3 ?_
  have h := si h
  subst h
  exact DoneS.ret Sees.refl rfl rfl
 intro k1 h
 refine sj ?_
 refine rk 1 (.k2 (.i 6 (eS 3 eGrand a0) .n)) ?_
 refine jo 7 (.len 0 6) (ok_len_m rfl) ?_
 refine jk 1 (.d (.k2 (.i 7 (vi (a0.length : Int)) (.i 8 (vi 0) .n)))) ?_
 refine q4 ?_
 refine ts (.k3 (.i 8 (vi 0) .n)) ?_
 refine TriE.loopN h (fun (v2 : Nat) => St.mk [(0, eS 3 eGrand a0), (1, .fn (.func 201) [] [.ptr 0 0 0]), (7, vi (a0.length : Int)), (8, vi v2)] [some (.row 1 [vt a1])]) rfl ?_
 clear h
 rintro back v2 h
 dsimp only [slices_IndexFunc_Grand_L1] at h
 refine sj ?_
 refine jo 9 (.bin .lss false 8 7) (n_lss (i := v2) (j := a0.length) rfl rfl) ?_
 refine jf (.d (.k4 (.i 9 (vb (decide (v2 < a0.length))) .n))) ?_
 refine q1 ?_
 refine tc h (fun c1 h => ?_) (fun c1 h => ?_)
 ·refine q2 ?_
  refine q7 ?_
  refine sk (.k4 (.i 5 (vi v2) .n)) ?_
  refine sj ?_
  refine rk 3 (.k4 (.k (.i 11 (.fn (.func 201) [] [.ptr 0 0 0]) (.i 12 (eS 3 eGrand a0) (.i 13 (vi v2) .n))))) ?_
  refine jo 14 (.iaddr 3 12 13) (ok_iaddr_m (j := v2) rfl rfl rfl c1) ?_
  refine jo 15 (.load true 3 14) (ok_load_fm (v := .agg [vt ((ix a0 v2).Name), vt ((ix a0 v2).Place), vi ((ix a0 v2).Width)]) rfl c1 rfl) ?_
  refine bK h fun y3 hy3 h => ?_
  refine jy (vb ((ix a0 v2).Name == a1)) 16 11 [15] rfl (diary_grand_f1_ok n (ix a0 v2) a1 y3 hy3) [0] rfl (.cons rfl .nil) (.cons rfl .nil) rfl ?_
  refine jf (.d3 (.k4 (.k (.i 16 (vb ((ix a0 v2).Name == a1)) .n)))) ?_
  refine tc h (fun c2 h => ?_) (fun c2 h => ?_)
  ·refine sk (.i 4 (vi v2) .n) ?_
   refine q3 ?_
   have h := si h
   subst h
   exact DoneS.ret Sees.refl rfl rfl
  refine q2 ?_
  refine q6 ?_
  refine cK h fun c3 h => ?_
  refine jo 18 (.bin .add false 8 (ki 1)) (r_addn (i := v2) (j := 1) rfl rfl c3) ?_
  refine jk 1 (.d (.k3 (.i 8 (vi ((v2 + 1 : Nat) : Int)) .n))) ?_
  exact Vs.intro sy ⟨(v2 + 1), rfl, h⟩
 refine q5 ?_
 exact Vs.intro sy ⟨(), rfl, h⟩
theorem diary_grand_ok (n : Nat) (a0 : Diary) (a1 : Str) (r : Str × Str × Int × Bool) (h : diary_grand n a0 a1 = some r) : FnL Tryz.prog 148 [.agg [eS 1 vt a0.Places, eS 1 vt a0.Technicians, eS 4 eRoad a0.Roads, eS 3 eGrand a0.Grands, vi a0.Change, vi a0.Lasts], vt a1] [] (.tup [.agg [vt r.1, vt r.2.1, vi r.2.2.1], vb r.2.2.2]) [] := by
 dsimp only [diary_grand] at h
 refine FnL.ofC [.cell 4 174, .tmp 5] Tryz.call148 Tryz.func148 rfl .nil ?_ (hl := rfl)
 refine sko (.i 2 (.ptr 0 0 0) (.i 3 (.ptr 1 0 0) (.i 4 (.ptr 2 0 0) .n))) [some (.row 6 [.agg [eS 1 vt a0.Places, eS 1 vt a0.Technicians, eS 4 eRoad a0.Roads, eS 3 eGrand a0.Grands, vi a0.Change, vi a0.Lasts]]), some (.row 1 [vt a1]), some (.row 3 [.agg [vt ([] : Str), vt ([] : Str), vi 0]])] ?_
 refine sj ?_
 refine rk 3 (.k (.d (.k (.i 8 (eS 3 eGrand a0.Grands) (.i 9 (.fn (.func 201) [] [.ptr 1 0 0]) .n))))) ?_
 refine bK h fun y1 hy1 h => ?_
 refine jco (vi y1) 10 [8, 9] (slices_IndexFunc_Grand_ok n a0.Grands a1 y1 hy1) [1] rfl (.cons rfl .nil) (.cons rfl .nil) rfl ?_
 refine jk 1 (.d (.k2 (.i 6 (vi y1) .n))) ?_
 refine q1 ?_
 refine sk (.k3 (.i 12 (vb (decide (y1 < (0 : Int)))) .n)) ?_
 refine tc h (fun c1 h => ?_) (fun c1 h => ?_)
 ·refine sk (.d (.k (.i 5 (vb false) .n))) ?_
  refine q3 ?_
  have h := si h
  subst h
  exact DoneC.ret (S' := ⟨[(4, .agg [vt ([] : Str), vt ([] : Str), vi 0]), (5, vb false)], []⟩) [.agg [vt ([] : Str), vt ([] : Str), vi 0], vb false] (sc [] (by decide) (by kernel_rfl) ObRen.nil rfl rfl) rfl rfl
 refine q2 ?_
 refine sj ?_
 refine rk 3 (.d (.k (.i 15 (eS 3 eGrand a0.Grands) (.i 16 (vi y1) .n)))) ?_
 refine cK h fun c2 h => ?_
 refine jo 17 (.iaddr 3 15 16) (ok_iaddr_m (j := y1.toNat) rfl rfl (inB_to c2) (inB_lt c2)) ?_
 refine cK h fun c3 h => ?_
 refine jo 18 (.load true 3 17) (ok_load_fm (v := .agg [vt ((ix a0.Grands y1.toNat).Name), vt ((ix a0.Grands y1.toNat).Place), vi ((ix a0.Grands y1.toNat).Width)]) rfl c3 rfl) ?_
 refine jko 2 (.d2 (.k (.i 5 (vb true) .n))) [some (.row 6 [.agg [eS 1 vt a0.Places, eS 1 vt a0.Technicians, eS 4 eRoad a0.Roads, eS 3 eGrand a0.Grands, vi a0.Change, vi a0.Lasts]]), some (.row 1 [vt a1]), some (.row 3 [.agg [vt ((ix a0.Grands y1.toNat).Name), vt ((ix a0.Grands y1.toNat).Place), vi ((ix a0.Grands y1.toNat).Width)]])] ?_
 refine q3 ?_
 have h := si h
 subst h
 exact DoneC.ret (S' := ⟨[(4, .agg [vt ((ix a0.Grands y1.toNat).Name), vt ((ix a0.Grands y1.toNat).Place), vi ((ix a0.Grands y1.toNat).Width)]), (5, vb true)], []⟩) [.agg [vt ((ix a0.Grands y1.toNat).Name), vt ((ix a0.Grands y1.toNat).Place), vi ((ix a0.Grands y1.toNat).Width)], vb true] (sc [] (by decide) (by kernel_rfl) ObRen.nil rfl rfl) rfl rfl
theorem diary_isMinute_ok (n : Nat) (a0 : Int) (r : Unit) (h : diary_isMinute n a0 = some r) : FnL Tryz.prog 149 [vi a0] [] (vb ((decide (0 ≤ a0)) && (decide (a0 ≤ 1000000)))) [] := by
 dsimp only [diary_isMinute] at h
 refine fo [2] Tryz.call149 Tryz.func149 rfl ?_
 refine sk .a ?_
 refine sj ?_
 refine rk 1 (.i 3 (vi a0) .n) ?_
 refine bK h fun y1 hy1 h => ?_
 refine jc 4 [3, (ki 0), (ki 1000000)] (diary_within_ok n a0 0 1000000 y1 hy1) ?_
 refine jk 1 (.i 2 (vb ((decide (0 ≤ a0)) && (decide (a0 ≤ 1000000)))) .n) ?_
 refine q3 ?_
 have h := si h
 subst h
 exact DoneS.ret Sees.refl rfl rfl
set_option maxHeartbeats 1000000 in
theorem diary_checkItem_ok (n : Nat) (a0 : Diary) (a1 : Item) (r : Int) (h : diary_checkItem n a0 a1 = some r) : FnL Tryz.prog 101 [.agg [eS 1 vt a0.Places, eS 1 vt a0.Technicians, eS 4 eRoad a0.Roads, eS 3 eGrand a0.Grands, vi a0.Change, vi a0.Lasts], .agg [vi a1.Kind, vi a1.From, vi a1.To, vt a1.Grand, vt a1.Place, vt a1.Who, vi a1.Deposit]] [] (vi r) [] := by
 dsimp only [diary_checkItem] at h
 refine fo [4] Tryz.call101 Tryz.func101 rfl ?_
 refine sko (.i 2 (.ptr 0 0 0) (.i 3 (.ptr 1 0 0) .n)) [some (.row 6 [.agg [eS 1 vt a0.Places, eS 1 vt a0.Technicians, eS 4 eRoad a0.Roads, eS 3 eGrand a0.Grands, vi a0.Change, vi a0.Lasts]]), some (.row 7 [.agg [vi a1.Kind, vi a1.From, vi a1.To, vt a1.Grand, vt a1.Place, vt a1.Who, vi a1.Deposit]])] ?_
 refine sj ?_
 refine rk 3 (.k2 (.i 8 (.agg [eS 1 vt a0.Places, eS 1 vt a0.Technicians, eS 4 eRoad a0.Roads, eS 3 eGrand a0.Grands, vi a0.Change, vi a0.Lasts]) (.i 10 (vt a1.Grand) .n))) ?_
 refine bK h fun y1 hy1 h => ?_
 refine jc 11 [8, 10] (diary_grand_ok n a0 a1.Grand y1 hy1) ?_
 refine jko 6 (.d (.k2 (.i 6 (vb y1.2.2.2) .n))) [some (.row 6 [.agg [eS 1 vt a0.Places, eS 1 vt a0.Technicians, eS 4 eRoad a0.Roads, eS 3 eGrand a0.Grands, vi a0.Change, vi a0.Lasts]]), some (.row 7 [.agg [vi a1.Kind, vi a1.From, vi a1.To, vt a1.Grand, vt a1.Place, vt a1.Who, vi a1.Deposit]]), some (.row 3 [.agg [vt y1.1, vt y1.2.1, vi y1.2.2.1]])] ?_
 refine q7 ?_
 refine sj ?_
 refine rk 2 (.k3 (.i 16 (vi a1.Kind) .n)) ?_
 refine bK h fun y2 hy2 h => ?_
 refine jc 17 [16, (ki 0), (ki 3)] (diary_within_ok n a1.Kind 0 3 y2 hy2) ?_
 refine jk 2 (.d (.k3 (.i 14 (vb (!((decide (0 ≤ a1.Kind)) && (decide (a1.Kind ≤ 3))))) .n))) ?_
 refine tc h (fun c1 h => ?_) (fun c1 h => ?_)
 ·refine sk (.i 4 (vi 15) .n) ?_
  refine q3 ?_
  have h := si h
  subst h
  exact DoneS.ret (S' := ⟨[(4, vi 15)], []⟩) (sc [] (by decide) (by kernel_rfl) ObRen.nil rfl rfl) rfl rfl
 refine sj ?_
 refine rk 2 (.k3 (.i 21 (vi a1.From) .n)) ?_
 refine bK h fun y3 hy3 h => ?_
 refine jc 22 [21] (diary_isMinute_ok n a1.From y3 hy3) ?_
 refine rk 2 (.d (.k3 (.i 24 (vb (!((decide (0 ≤ a1.From)) && (decide (a1.From ≤ 1000000))))) .n))) ?_
 refine gj (.ptr 1 0 2) 25 (.faddr 2 3) 24 false rfl ?_
 refine gk (vi a1.To) 26 (.load false 1 25) 24 false rfl (fun hg => (.cons hg .nil)) ?_
 refine bK h fun y4 hy4 h => ?_
 refine gc 27 [26] 24 false rfl (fun hg => diary_isMinute_ok n a1.To y4 (gcall_some hy4 hg)) (fun hg => (.cons rfl (.cons hg .nil))) (fun hg => by kernel_rfl) ?_
 refine gk (vb (!((decide (0 ≤ a1.To)) && (decide (a1.To ≤ 1000000))))) 28 (.un .not 27) 24 false rfl (fun hg => (.cons hg .nil)) ?_
 refine po 29 24 28 rfl rfl ?_
 refine jk 1 (.d4 (.d (.k3 (.i 19 (vb ((!((decide (0 ≤ a1.From)) && (decide (a1.From ≤ 1000000)))) || (!((decide (0 ≤ a1.To)) && (decide (a1.To ≤ 1000000)))))) .n)))) ?_
 refine tc h (fun c2 h => ?_) (fun c2 h => ?_)
 ·refine sk (.i 4 (vi 2) .n) ?_
  refine q3 ?_
  have h := si h
  subst h
  exact DoneS.ret (S' := ⟨[(4, vi 2)], []⟩) (sc [] (by decide) (by kernel_rfl) ObRen.nil rfl rfl) rfl rfl
 refine sk (.k3 (.i 30 (vb (decide (a1.To ≤ a1.From))) .n)) ?_
 refine tc h (fun c3 h => ?_) (fun c3 h => ?_)
 ·refine sk (.i 4 (vi 9) .n) ?_
  refine q3 ?_
  have h := si h
  subst h
  exact DoneS.ret (S' := ⟨[(4, vi 9)], []⟩) (sc [] (by decide) (by kernel_rfl) ObRen.nil rfl rfl) rfl rfl
 refine sj ?_
 refine rk 3 (.k2 (.i 39 (vb (!y1.2.2.2)) .n)) ?_
 refine gj (.ptr 0 0 0) 40 (.faddr 0 2) 39 false rfl ?_
 refine gk (eS 1 vt a0.Places) 41 (.load false 1 40) 39 false rfl (fun hg => (.cons hg .nil)) ?_
 refine gj (.ptr 1 0 4) 42 (.faddr 4 3) 39 false rfl ?_
 refine gk (vt a1.Place) 43 (.load false 1 42) 39 false rfl (fun hg => (.cons hg .nil)) ?_
 refine bK h fun y5 hy5 h => ?_
 refine gc 44 [41, 43] 39 false rfl (fun hg => slices_Contains_string_ok n a0.Places a1.Place y5 (gcall_some hy5 hg)) (fun hg => (.cons rfl (.cons hg (.cons hg .nil)))) (fun hg => by kernel_rfl) ?_
 refine gk (vb (!y5)) 45 (.un .not 44) 39 false rfl (fun hg => (.cons hg .nil)) ?_
 refine po 46 39 45 rfl rfl ?_
 refine jk 1 (.d4 (.d3 (.k2 (.i 36 (vb ((!y1.2.2.2) || (!y5))) .n)))) ?_
 refine tc h (fun c4 h => ?_) (fun c4 h => ?_)
 ·refine sk (.i 4 (vi 6) .n) ?_
  refine q3 ?_
  have h := si h
  subst h
  exact DoneS.ret (S' := ⟨[(4, vi 6)], []⟩) (sc [] (by decide) (by kernel_rfl) ObRen.nil rfl rfl) rfl rfl
 refine sj ?_
 refine rk 4 (.k2 (.i 51 (vb (a1.Kind == (0 : Int))) .n)) ?_
 refine gj (.ptr 0 0 1) 52 (.faddr 1 2) 51 true rfl ?_
 refine gk (eS 1 vt a0.Technicians) 53 (.load false 1 52) 51 true rfl (fun hg => (.cons hg .nil)) ?_
 refine gj (.ptr 1 0 5) 54 (.faddr 5 3) 51 true rfl ?_
 refine gk (vt a1.Who) 55 (.load false 1 54) 51 true rfl (fun hg => (.cons hg .nil)) ?_
 refine bK h fun y6 hy6 h => ?_
 refine gc 56 [53, 55] 51 true rfl (fun hg => slices_Contains_string_ok n a0.Technicians a1.Who y6 (gcall_some hy6 hg)) (fun hg => (.cons rfl (.cons hg (.cons hg .nil)))) (fun hg => by kernel_rfl) ?_
 refine gk (vb (!y6)) 57 (.un .not 56) 51 true rfl (fun hg => (.cons hg .nil)) ?_
 refine pa 58 51 57 rfl rfl ?_
 refine jk 1 (.d4 (.d4 (.k (.i 47 (vb ((a1.Kind == (0 : Int)) && (!y6))) .n)))) ?_
 refine tc h (fun c5 h => ?_) (fun c5 h => ?_)
 ·refine sk (.i 4 (vi 6) .n) ?_
  refine q3 ?_
  have h := si h
  subst h
  exact DoneS.ret (S' := ⟨[(4, vi 6)], []⟩) (sc [] (by decide) (by kernel_rfl) ObRen.nil rfl rfl) rfl rfl
 refine sj ?_
 refine rk 4 (.k (.i 63 (vb (a1.Kind == (3 : Int))) .n)) ?_
 refine gj (.ptr 1 0 5) 64 (.faddr 5 3) 63 true rfl ?_
 refine gk (vt a1.Who) 65 (.load false 1 64) 63 true rfl (fun hg => (.cons hg .nil)) ?_
 refine bK h fun y7 hy7 h => ?_
 refine gc 66 [65] 63 true rfl (fun hg => diary_isName_ok n a1.Who y7 (gcall_some hy7 hg)) (fun hg => (.cons rfl (.cons hg .nil))) (fun hg => by kernel_rfl) ?_
 refine gk (vb (!y7)) 67 (.un .not 66) 63 true rfl (fun hg => (.cons hg .nil)) ?_
 refine pa 68 63 67 rfl rfl ?_
 refine jk 1 (.d4 (.d (.k (.i 59 (vb ((a1.Kind == (3 : Int)) && (!y7))) .n)))) ?_
 refine tc h (fun c6 h => ?_) (fun c6 h => ?_)
 ·refine sk (.i 4 (vi 4) .n) ?_
  refine q3 ?_
  have h := si h
  subst h
  exact DoneS.ret (S' := ⟨[(4, vi 4)], []⟩) (sc [] (by decide) (by kernel_rfl) ObRen.nil rfl rfl) rfl rfl
 refine sj ?_
 refine rk 4 (.k (.i 73 (vb (a1.Kind == (3 : Int))) .n)) ?_
 refine gj (.ptr 1 0 6) 74 (.faddr 6 3) 73 true rfl ?_
 refine gk (vi a1.Deposit) 75 (.load false 1 74) 73 true rfl (fun hg => (.cons hg .nil)) ?_
 refine bK h fun y8 hy8 h => ?_
 refine gc 76 [75, (ki 0), (ki 1000000000)] 73 true rfl (fun hg => diary_within_ok n a1.Deposit 0 1000000000 y8 (gcall_some hy8 hg)) (fun hg => (.cons rfl (.cons hg (.cons rfl (.cons rfl .nil))))) (fun hg => by kernel_rfl) ?_
 refine gk (vb (!((decide (0 ≤ a1.Deposit)) && (decide (a1.Deposit ≤ 1000000000))))) 77 (.un .not 76) 73 true rfl (fun hg => (.cons hg .nil)) ?_
 refine pa 78 73 77 rfl rfl ?_
 refine jk 1 (.d4 (.d (.k (.i 69 (vb ((a1.Kind == (3 : Int)) && (!((decide (0 ≤ a1.Deposit)) && (decide (a1.Deposit ≤ 1000000000)))))) .n)))) ?_
 refine tc h (fun c7 h => ?_) (fun c7 h => ?_)
 ·refine sk (.i 4 (vi 2) .n) ?_
  refine q3 ?_
  have h := si h
  subst h
  exact DoneS.ret (S' := ⟨[(4, vi 2)], []⟩) (sc [] (by decide) (by kernel_rfl) ObRen.nil rfl rfl) rfl rfl
 refine TriE.seqK h (fun (v9 : Bool) => St.mk [(79, vb v9)] []) ?_ ?_
 ·rintro v9 h
  refine tc h (fun c9 h => ?_) (fun c9 h => ?_)
  ·refine sk (.i 4 (vi 3) .n) ?_
   refine q3 ?_
   have h := si h
   subst h
   exact DoneS.ret Sees.refl rfl rfl
  refine q2 ?_
  refine sk (.i 4 (vi 0) .n) ?_
  refine q3 ?_
  have h := si h
  subst h
  exact DoneS.ret Sees.refl rfl rfl
 intro k1 h
 refine sj ?_
 refine rk 4 (.k (.i 83 (vb (a1.Kind != (3 : Int))) .n)) ?_
 refine gj (.ptr 1 0 6) 84 (.faddr 6 3) 83 true rfl ?_
 refine gk (vi a1.Deposit) 85 (.load false 1 84) 83 true rfl (fun hg => (.cons hg .nil)) ?_
 refine gk (vb (a1.Deposit != (0 : Int))) 86 (.bin .neq false 85 (ki 0)) 83 true rfl (fun hg => (.cons hg (.cons rfl .nil))) ?_
 refine pa 87 83 86 rfl rfl ?_
 refine jk 1 (.d4 (.k (.i 79 (vb ((a1.Kind != (3 : Int)) && (a1.Deposit != (0 : Int)))) .n))) ?_
 refine tc h (fun c8 h => ?_) (fun c8 h => ?_)
 ·refine q2 ?_
  exact Vs.intro (sc [] (by decide) (by kernel_rfl) ObRen.nil rfl rfl) ⟨((a1.Kind != (3 : Int)) && (a1.Deposit != (0 : Int))), rfl, h⟩
 refine q6 ?_
 refine rk 4 (.k (.i 91 (vb (a1.Kind == (1 : Int))) .n)) ?_
 refine gj (.ptr 1 0 0) 92 (.faddr 0 3) 91 false rfl ?_
 refine gk (vi a1.Kind) 93 (.load false 1 92) 91 false rfl (fun hg => (.cons hg .nil)) ?_
 refine gk (vb (a1.Kind == (2 : Int))) 94 (.bin .eql false 93 (ki 2)) 91 false rfl (fun hg => (.cons hg (.cons rfl .nil))) ?_
 refine po 95 91 94 rfl rfl ?_
 refine rk 1 (.d4 (.k (.i 96 (vb ((a1.Kind == (1 : Int)) || (a1.Kind == (2 : Int)))) .n))) ?_
 refine gj (.ptr 1 0 5) 97 (.faddr 5 3) 96 true rfl ?_
 refine gk (vt a1.Who) 98 (.load false 1 97) 96 true rfl (fun hg => (.cons hg .nil)) ?_
 refine gk (vb (!(a1.Who == ([] : Str)))) 99 (.bin .neq false 98 (.c (.p (.string ⟨#[]⟩)))) 96 true rfl (fun hg => (.cons hg (.cons rfl .nil))) ?_
 refine pa 100 96 99 rfl rfl ?_
 refine jk 1 (.i 79 (vb (((a1.Kind == (1 : Int)) || (a1.Kind == (2 : Int))) && (!(a1.Who == ([] : Str))))) .n) ?_
 exact Vs.intro (sc [] (by decide) (by kernel_rfl) ObRen.nil rfl rfl) ⟨(((a1.Kind == (1 : Int)) || (a1.Kind == (2 : Int))) && (!(a1.Who == ([] : Str)))), rfl, h⟩
set_option maxHeartbeats 1000000 in
theorem diary_plan_changes_f1_ok (n : Nat) (a0 : Item) (a1 : Int) (a2 : Int) (a3 : Int) (a4 : Str) (a5 : Str) (a6 : Str) (a7 : Int) (a8 : List Str) (a9 : List Str) (a10 : List Road) (a11 : List Grand) (a12 : Int) (a13 : Int) (a14 : List (Int × List (Arr2_Str × Int))) (r : Unit) (h : diary_plan_changes_f1 n a0 a1 a2 a3 a4 a5 a6 a7 a8 a9 a10 a11 a12 a13 a14 = some r) : FnL Tryz.prog 197 [.agg [vi a0.Kind, vi a0.From, vi a0.To, vt a0.Grand, vt a0.Place, vt a0.Who, vi a0.Deposit], .ptr 0 0 0, .ptr 1 0 0] [some (.row 7 [.agg [vi a1, vi a2, vi a3, vt a4, vt a5, vt a6, vi a7]]), some (.row 1 [.ptr 2 0 0]), some (.row 7 [.agg [eS 1 vt a8, eS 1 vt a9, eS 4 eRoad a10, eS 3 eGrand a11, vi a12, vi a13, .map 3]]), some (.mp (mpE vi (eM eArr2_Str vi) a14))] (vb ((a0.Grand == a4) && (decide (a2 < (a0.To + a12))))) [some (.row 7 [.agg [vi a1, vi a2, vi a3, vt a4, vt a5, vt a6, vi a7]]), some (.row 1 [.ptr 2 0 0]), some (.row 7 [.agg [eS 1 vt a8, eS 1 vt a9, eS 4 eRoad a10, eS 3 eGrand a11, vi a12, vi a13, .map 3]]), some (.mp (mpE vi (eM eArr2_Str vi) a14))] := by
  dsimp only [diary_plan_changes_f1] at h
  refine FnL.ofS (ts := [4]) Tryz.call197 Tryz.func197 rfl rfl (Nat.le_of_ble_eq_true rfl) (Nat.le_of_ble_eq_true rfl) (hall_of (.cons rfl (.cons rfl (.cons rfl (.cons rfl .nil))))) ?_
  show TriE _ _ _ _ _ (St.mk [(0, .agg [vi a0.Kind, vi a0.From, vi a0.To, vt a0.Grand, vt a0.Place, vt a0.Who, vi a0.Deposit]), (1, .ptr 0 0 0), (2, .ptr 1 0 0)] [some (.row 7 [.agg [vi a1, vi a2, vi a3, vt a4, vt a5, vt a6, vi a7]]), some (.row 1 [.ptr 2 0 0]), some (.row 7 [.agg [eS 1 vt a8, eS 1 vt a9, eS 4 eRoad a10, eS 3 eGrand a11, vi a12, vi a13, .map 3]]), some (.mp (mpE vi (eM eArr2_Str vi) a14))]) _
  refine TriE.seq ?_
  refine TriE.run [(1, .ptr 0 0 0), (2, .ptr 1 0 0), (3, .ptr 4 0 0)] [some (.row 7 [.agg [vi a1, vi a2, vi a3, vt a4, vt a5, vt a6, vi a7]]), some (.row 1 [.ptr 2 0 0]), some (.row 7 [.agg [eS 1 vt a8, eS 1 vt a9, eS 4 eRoad a10, eS 3 eGrand a11, vi a12, vi a13, .map 3]]), some (.mp (mpE vi (eM eArr2_Str vi) a14)), some (.row 7 [.agg [vi a0.Kind, vi a0.From, vi a0.To, vt a0.Grand, vt a0.Place, vt a0.Who, vi a0.Deposit]])] (by kernel_rfl) ?_
  refine TriE.seq ?_
  refine TriE.sees (Sees.less (fr' := [(1, .ptr 0 0 0), (2, .ptr 1 0 0), (3, .ptr 4 0 0)]) (.cons rfl (.cons rfl (.cons rfl .nil)))) ?_
  refine TriE.draw (by kernel_rfl) ?_
  refine RegD.run 6 [(10, vb (a0.Grand == a4)), (9, vb (a0.Grand == a4)), (8, vt a4), (7, .ptr 0 0 3), (6, vt a0.Grand), (5, .ptr 4 0 3), (1, .ptr 0 0 0), (2, .ptr 1 0 0), (3, .ptr 4 0 0)] [some (.row 7 [.agg [vi a1, vi a2, vi a3, vt a4, vt a5, vt a6, vi a7]]), some (.row 1 [.ptr 2 0 0]), some (.row 7 [.agg [eS 1 vt a8, eS 1 vt a9, eS 4 eRoad a10, eS 3 eGrand a11, vi a12, vi a13, .map 3]]), some (.mp (mpE vi (eM eArr2_Str vi) a14)), some (.row 7 [.agg [vi a0.Kind, vi a0.From, vi a0.To, vt a0.Grand, vt a0.Place, vt a0.Who, vi a0.Deposit]]), none, none, none, none, none, none] (by kernel_rfl) ?_
  refine RegD.op (OpD.valk (g := (a0.Grand == a4)) (v := .ptr 0 0 1) _ _ (cz (IG 11 (.faddr 1 (.t 1)) 10 true) (by kernel_rfl)) rfl (by kernel_rfl) (fun hg => (.cons rfl .nil))) ?_
  refine RegD.op (OpD.valk (g := (a0.Grand == a4)) (v := vi a2) _ _ (cz (IG 12 (.load false 1 (.t 11)) 10 true) (by kernel_rfl)) rfl (by kernel_rfl) (fun hg => (.cons hg .nil))) ?_
  refine RegD.op (OpD.valk (g := (a0.Grand == a4)) (v := .ptr 4 0 2) _ _ (cz (IG 13 (.faddr 2 (.t 3)) 10 true) (by kernel_rfl)) rfl (by kernel_rfl) (fun hg => (.cons rfl .nil))) ?_
  refine RegD.op (OpD.valk (g := (a0.Grand == a4)) (v := vi a0.To) _ _ (cz (IG 14 (.load false 1 (.t 13)) 10 true) (by kernel_rfl)) rfl (by kernel_rfl) (fun hg => (.cons hg .nil))) ?_
  refine RegD.op (OpD.valk (g := (a0.Grand == a4)) (v := .ptr 2 0 0) _ _ (cz (IG 15 (.load false 1 (.t 2)) 10 true) (by kernel_rfl)) rfl (by kernel_rfl) (fun hg => (.cons rfl .nil))) ?_
  refine RegD.op (OpD.valk (g := (a0.Grand == a4)) (v := .ptr 2 0 0) _ _ (cz (IG 16 (.nilchk (.t 15)) 10 true) (by kernel_rfl)) rfl (by kernel_rfl) (fun hg => (.cons hg .nil))) ?_
  refine RegD.op (OpD.valk (g := (a0.Grand == a4)) (v := .ptr 2 0 0) _ _ (cz (IG 17 (.faddr 0 (.t 16)) 10 true) (by kernel_rfl)) rfl (by kernel_rfl) (fun hg => (.cons hg .nil))) ?_
  refine RegD.op (OpD.valk (g := (a0.Grand == a4)) (v := .ptr 2 0 4) _ _ (cz (IG 18 (.faddr 4 (.t 17)) 10 true) (by kernel_rfl)) rfl (by kernel_rfl) (fun hg => (.cons hg .nil))) ?_
  refine RegD.op (OpD.valk (g := (a0.Grand == a4)) (v := vi a12) _ _ (cz (IG 19 (.load false 1 (.t 18)) 10 true) (by kernel_rfl)) rfl (by kernel_rfl) (fun hg => (.cons hg .nil))) ?_
  refine cK h fun c1 h => ?_
  refine RegD.op (OpD.valg (g := (a0.Grand == a4)) (v := vi (a0.To + a12)) _ _ (cz (IG 20 (.bin .add false (.t 14) (.t 19)) 10 true) (by kernel_rfl)) rfl (fun hg => (r_add rfl rfl (gor c1 hg))) (fun hg => (.cons hg (.cons hg .nil)))) ?_
  refine RegD.op (OpD.valk (g := (a0.Grand == a4)) (v := vb (decide (a2 < (a0.To + a12)))) _ _ (cz (IG 21 (.bin .lss false (.t 12) (.t 20)) 10 true) (by kernel_rfl)) rfl (by kernel_rfl) (fun hg => (.cons hg (.cons hg .nil)))) ?_
  refine RegD.op (OpD.and (cz (I0 22 (.pick (.t 10) (.t 21) (.c (.p (.bool false))))) (by kernel_rfl)) rfl rfl (by first | exact hokA1 | exact hokA0 | simp)) ?_
  refine RegD.run 1 [(4, vb ((a0.Grand == a4) && (decide (a2 < (a0.To + a12))))), (22, vb ((a0.Grand == a4) && (decide (a2 < (a0.To + a12))))), (21, .cond (a0.Grand == a4) (vb (decide (a2 < (a0.To + a12))))), (20, .cond (a0.Grand == a4) (vi (a0.To + a12))), (19, .cond (a0.Grand == a4) (vi a12)), (18, .cond (a0.Grand == a4) (.ptr 2 0 4)), (17, .cond (a0.Grand == a4) (.ptr 2 0 0)), (16, .cond (a0.Grand == a4) (.ptr 2 0 0)), (15, .cond (a0.Grand == a4) (.ptr 2 0 0)), (14, .cond (a0.Grand == a4) (vi a0.To)), (13, .cond (a0.Grand == a4) (.ptr 4 0 2)), (12, .cond (a0.Grand == a4) (vi a2)), (11, .cond (a0.Grand == a4) (.ptr 0 0 1)), (10, vb (a0.Grand == a4)), (9, vb (a0.Grand == a4)), (8, vt a4), (7, .ptr 0 0 3), (6, vt a0.Grand), (5, .ptr 4 0 3), (1, .ptr 0 0 0), (2, .ptr 1 0 0), (3, .ptr 4 0 0)] [some (.row 7 [.agg [vi a1, vi a2, vi a3, vt a4, vt a5, vt a6, vi a7]]), some (.row 1 [.ptr 2 0 0]), some (.row 7 [.agg [eS 1 vt a8, eS 1 vt a9, eS 4 eRoad a10, eS 3 eGrand a11, vi a12, vi a13, .map 3]]), some (.mp (mpE vi (eM eArr2_Str vi) a14)), some (.row 7 [.agg [vi a0.Kind, vi a0.From, vi a0.To, vt a0.Grand, vt a0.Place, vt a0.Who, vi a0.Deposit]]), none, none, none, none, none, none, none, none, none, none, none, none, none, none, none, none, none, none, none] (by kernel_rfl) ?_
  refine RegD.done rfl (by kernel_rfl) (S' := ⟨[(4, vb ((a0.Grand == a4) && (decide (a2 < (a0.To + a12)))))], [some (.row 7 [.agg [vi a1, vi a2, vi a3, vt a4, vt a5, vt a6, vi a7]]), some (.row 1 [.ptr 2 0 0]), some (.row 7 [.agg [eS 1 vt a8, eS 1 vt a9, eS 4 eRoad a10, eS 3 eGrand a11, vi a12, vi a13, .map 3]]), some (.mp (mpE vi (eM eArr2_Str vi) a14))]⟩) (sc [0, 1, 2, 3] (by decide) (by kernel_rfl) (.cons rfl (.cons rfl (.cons rfl (obRen_mp vi_frz (eM_frz eArr2_Str vi) rfl .nil)))) rfl rfl) ?_
  refine TriE.ret ?_
  have h := Option.some.inj h
  subst h
  exact DoneS.ret (S' := ⟨[(4, vb ((a0.Grand == a4) && (decide (a2 < (a0.To + a12)))))], [some (.row 7 [.agg [vi a1, vi a2, vi a3, vt a4, vt a5, vt a6, vi a7]]), some (.row 1 [.ptr 2 0 0]), some (.row 7 [.agg [eS 1 vt a8, eS 1 vt a9, eS 4 eRoad a10, eS 3 eGrand a11, vi a12, vi a13, .map 3]]), some (.mp (mpE vi (eM eArr2_Str vi) a14))]⟩) Sees.refl rfl rfl
theorem slices_IndexFunc_Item_ok (n : Nat) (a0 : List Item) (a1 : Int) (a2 : Int) (a3 : Int) (a4 : Str) (a5 : Str) (a6 : Str) (a7 : Int) (a8 : List Str) (a9 : List Str) (a10 : List Road) (a11 : List Grand) (a12 : Int) (a13 : Int) (a14 : List (Int × List (Arr2_Str × Int))) (r : Int) (h : slices_IndexFunc_Item n a0 a1 a2 a3 a4 a5 a6 a7 a8 a9 a10 a11 a12 a13 a14 = some r) : FnL Tryz.prog 243 [eS 7 eItem a0, .fn (.func 197) [] [.ptr 0 0 0, .ptr 1 0 0]] [some (.row 7 [.agg [vi a1, vi a2, vi a3, vt a4, vt a5, vt a6, vi a7]]), some (.row 1 [.ptr 2 0 0]), some (.row 7 [.agg [eS 1 vt a8, eS 1 vt a9, eS 4 eRoad a10, eS 3 eGrand a11, vi a12, vi a13, .map 3]]), some (.mp (mpE vi (eM eArr2_Str vi) a14))] (vi r) [some (.row 7 [.agg [vi a1, vi a2, vi a3, vt a4, vt a5, vt a6, vi a7]]), some (.row 1 [.ptr 2 0 0]), some (.row 7 [.agg [eS 1 vt a8, eS 1 vt a9, eS 4 eRoad a10, eS 3 eGrand a11, vi a12, vi a13, .map 3]]), some (.mp (mpE vi (eM eArr2_Str vi) a14))] := by
 dsimp only [slices_IndexFunc_Item] at h
 refine fob [4] Tryz.call243 Tryz.func243 rfl (.cons rfl (.cons rfl (.cons rfl (.cons rfl .nil)))) ?_
 refine sk .a ?_
 refine TriE.seqK h (fun (_ : Unit) => St.mk [] [some (.row 7 [.agg [vi a1, vi a2, vi a3, vt a4, vt a5, vt a6, vi a7]]), some (.row 1 [.ptr 2 0 0]), some (.row 7 [.agg [eS 1 vt a8, eS 1 vt a9, eS 4 eRoad a10, eS 3 eGrand a11, vi a12, vi a13, .map 3]]), some (.mp (mpE vi (eM eArr2_Str vi) a14))]) ?_ ?_
 ·rintro ⟨⟩ h
  refine sk (.i 4 (vi (-1)) .n) ?_
  refine q3 ?_
  have h := si h
  subst h
  exact DoneS.ret Sees.refl rfl rfl
 intro k1 h
 refine sj ?_
 refine rk 1 (.k2 (.i 6 (eS 7 eItem a0) .n)) ?_
 refine jo 7 (.len 0 6) (ok_len_m rfl) ?_
 refine jk 1 (.d (.k2 (.i 7 (vi (a0.length : Int)) (.i 8 (vi 0) .n)))) ?_
 refine q4 ?_
 refine ts (.k3 (.i 8 (vi 0) .n)) ?_
 refine TriE.loopN h (fun (v2 : Nat) => St.mk [(0, eS 7 eItem a0), (1, .fn (.func 197) [] [.ptr 0 0 0, .ptr 1 0 0]), (7, vi (a0.length : Int)), (8, vi v2)] [some (.row 7 [.agg [vi a1, vi a2, vi a3, vt a4, vt a5, vt a6, vi a7]]), some (.row 1 [.ptr 2 0 0]), some (.row 7 [.agg [eS 1 vt a8, eS 1 vt a9, eS 4 eRoad a10, eS 3 eGrand a11, vi a12, vi a13, .map 3]]), some (.mp (mpE vi (eM eArr2_Str vi) a14))]) rfl ?_
 clear h
 rintro back v2 h
 dsimp only [slices_IndexFunc_Item_L1] at h
 refine sj ?_
 refine jo 9 (.bin .lss false 8 7) (n_lss (i := v2) (j := a0.length) rfl rfl) ?_
 refine jf (.d (.k4 (.i 9 (vb (decide (v2 < a0.length))) .n))) ?_
 refine q1 ?_
 refine tc h (fun c1 h => ?_) (fun c1 h => ?_)
 ·refine q2 ?_
  refine q7 ?_
  refine sk (.k4 (.i 5 (vi v2) .n)) ?_
  refine sj ?_
  refine rk 3 (.k4 (.k (.i 11 (.fn (.func 197) [] [.ptr 0 0 0, .ptr 1 0 0]) (.i 12 (eS 7 eItem a0) (.i 13 (vi v2) .n))))) ?_
  refine jo 14 (.iaddr 7 12 13) (ok_iaddr_m (j := v2) rfl rfl rfl c1) ?_
  refine jo 15 (.load true 7 14) (ok_load_fm (v := .agg [vi ((ix a0 v2).Kind), vi ((ix a0 v2).From), vi ((ix a0 v2).To), vt ((ix a0 v2).Grand), vt ((ix a0 v2).Place), vt ((ix a0 v2).Who), vi ((ix a0 v2).Deposit)]) rfl c1 rfl) ?_
  refine bK h fun y3 hy3 h => ?_
  refine jy (vb (((ix a0 v2).Grand == a4) && (decide (a2 < ((ix a0 v2).To + a12))))) 16 11 [15] rfl (diary_plan_changes_f1_ok n (ix a0 v2) a1 a2 a3 a4 a5 a6 a7 a8 a9 a10 a11 a12 a13 a14 y3 hy3) [0, 1, 2, 3] rfl (.cons rfl (.cons rfl (.cons rfl (.same (mp_ren vi_frz (eM_frz eArr2_Str vi) _ _) .nil)))) (.cons rfl (.cons rfl (.cons rfl (.same (mp_ren vi_frz (eM_frz eArr2_Str vi) _ _) .nil)))) rfl ?_
  refine jf (.d3 (.k4 (.k (.i 16 (vb (((ix a0 v2).Grand == a4) && (decide (a2 < ((ix a0 v2).To + a12))))) .n)))) ?_
  refine tc h (fun c2 h => ?_) (fun c2 h => ?_)
  ·refine sk (.i 4 (vi v2) .n) ?_
   refine q3 ?_
   have h := si h
   subst h
   exact DoneS.ret Sees.refl rfl rfl
  refine q2 ?_
  refine q6 ?_
  refine cK h fun c3 h => ?_
  refine jo 18 (.bin .add false 8 (ki 1)) (r_addn (i := v2) (j := 1) rfl rfl c3) ?_
  refine jk 1 (.d (.k3 (.i 8 (vi ((v2 + 1 : Nat) : Int)) .n))) ?_
  exact Vs.intro sy ⟨(v2 + 1), rfl, h⟩
 refine q5 ?_
 exact Vs.intro sy ⟨(), rfl, h⟩
theorem slices_ContainsFunc_Item_ok (n : Nat) (a0 : List Item) (a1 : Int) (a2 : Int) (a3 : Int) (a4 : Str) (a5 : Str) (a6 : Str) (a7 : Int) (a8 : List Str) (a9 : List Str) (a10 : List Road) (a11 : List Grand) (a12 : Int) (a13 : Int) (a14 : List (Int × List (Arr2_Str × Int))) (r : Bool) (h : slices_ContainsFunc_Item n a0 a1 a2 a3 a4 a5 a6 a7 a8 a9 a10 a11 a12 a13 a14 = some r) : FnL Tryz.prog 196 [eS 7 eItem a0, .fn (.func 197) [] [.ptr 0 0 0, .ptr 1 0 0]] [some (.row 7 [.agg [vi a1, vi a2, vi a3, vt a4, vt a5, vt a6, vi a7]]), some (.row 1 [.ptr 2 0 0]), some (.row 7 [.agg [eS 1 vt a8, eS 1 vt a9, eS 4 eRoad a10, eS 3 eGrand a11, vi a12, vi a13, .map 3]]), some (.mp (mpE vi (eM eArr2_Str vi) a14))] (vb r) [some (.row 7 [.agg [vi a1, vi a2, vi a3, vt a4, vt a5, vt a6, vi a7]]), some (.row 1 [.ptr 2 0 0]), some (.row 7 [.agg [eS 1 vt a8, eS 1 vt a9, eS 4 eRoad a10, eS 3 eGrand a11, vi a12, vi a13, .map 3]]), some (.mp (mpE vi (eM eArr2_Str vi) a14))] := by
 dsimp only [slices_ContainsFunc_Item] at h
 refine fob [4] Tryz.call196 Tryz.func196 rfl (.cons rfl (.cons rfl (.cons rfl (.cons rfl .nil)))) ?_
 refine sk .a ?_
 refine sj ?_
 refine rk 2 (.i 5 (eS 7 eItem a0) (.i 6 (.fn (.func 197) [] [.ptr 0 0 0, .ptr 1 0 0]) .n)) ?_
 refine bK h fun y1 hy1 h => ?_
 refine jco (vi y1) 7 [5, 6] (slices_IndexFunc_Item_ok n a0 a1 a2 a3 a4 a5 a6 a7 a8 a9 a10 a11 a12 a13 a14 y1 hy1) [0, 1, 2, 3] rfl (.cons rfl (.cons rfl (.cons rfl (.same (mp_ren vi_frz (eM_frz eArr2_Str vi) _ _) .nil)))) (.cons rfl (.cons rfl (.cons rfl (.same (mp_ren vi_frz (eM_frz eArr2_Str vi) _ _) .nil)))) rfl ?_
 refine jk 2 (.i 4 (vb (decide ((0 : Int) ≤ y1))) .n) ?_
 refine q3 ?_
 have h := si h
 subst h
 exact DoneS.ret Sees.refl rfl rfl
theorem diary_plan_changes_ok (n : Nat) (a0 : List Str) (a1 : List Str) (a2 : List Road) (a3 : List Grand) (a4 : Int) (a5 : Int) (a6 : List (Int × List (Arr2_Str × Int))) (a7 : List Item) (a8 : Item) (r : Int) (h : diary_plan_changes n a0 a1 a2 a3 a4 a5 a6 a7 a8 = some r) : FnL Tryz.prog 144 [.ptr 0 0 0, eS 7 eItem a7, .agg [vi a8.Kind, vi a8.From, vi a8.To, vt a8.Grand, vt a8.Place, vt a8.Who, vi a8.Deposit]] [some (.row 7 [.agg [eS 1 vt a0, eS 1 vt a1, eS 4 eRoad a2, eS 3 eGrand a3, vi a4, vi a5, .map 1]]), some (.mp (mpE vi (eM eArr2_Str vi) a6))] (vi r) [some (.row 7 [.agg [eS 1 vt a0, eS 1 vt a1, eS 4 eRoad a2, eS 3 eGrand a3, vi a4, vi a5, .map 1]]), some (.mp (mpE vi (eM eArr2_Str vi) a6))] := by
 dsimp only [diary_plan_changes] at h
 refine fob [6] Tryz.call144 Tryz.func144 rfl (.cons rfl (.cons rfl .nil)) ?_
 refine sko (.d (.k (.i 3 (.ptr 2 0 0) (.i 5 (.ptr 3 0 0) .n)))) [some (.row 7 [.agg [eS 1 vt a0, eS 1 vt a1, eS 4 eRoad a2, eS 3 eGrand a3, vi a4, vi a5, .map 1]]), some (.mp (mpE vi (eM eArr2_Str vi) a6)), some (.row 1 [.ptr 0 0 0]), some (.row 7 [.agg [vi a8.Kind, vi a8.From, vi a8.To, vt a8.Grand, vt a8.Place, vt a8.Who, vi a8.Deposit]])] ?_
 refine q1 ?_
 refine sj ?_
 refine rk 2 (.i 7 (eS 7 eItem a7) (.i 8 (.fn (.func 197) [] [.ptr 3 0 0, .ptr 2 0 0]) .n)) ?_
 refine bK h fun y1 hy1 h => ?_
 refine jco (vb y1) 9 [7, 8] (slices_ContainsFunc_Item_ok n a7 a8.Kind a8.From a8.To a8.Grand a8.Place a8.Who a8.Deposit a0 a1 a2 a3 a4 a5 a6 y1 hy1) [3, 2, 0, 1] rfl (.cons rfl (.cons rfl (.cons rfl (.same (mp_ren vi_frz (eM_frz eArr2_Str vi) _ _) .nil)))) (.cons rfl (.cons rfl (.cons rfl (.same (mp_ren vi_frz (eM_frz eArr2_Str vi) _ _) .nil)))) rfl ?_
 refine jf (.k .n) ?_
 refine tc h (fun c1 h => ?_) (fun c1 h => ?_)
 ·refine sk (.i 6 (vi 17) .n) ?_
  refine q3 ?_
  have h := si h
  subst h
  exact DoneS.ret (S' := ⟨[(6, vi 17)], [some (.row 7 [.agg [eS 1 vt a0, eS 1 vt a1, eS 4 eRoad a2, eS 3 eGrand a3, vi a4, vi a5, .map 1]]), some (.mp (mpE vi (eM eArr2_Str vi) a6))]⟩) (sc [0, 1] (by decide) (by kernel_rfl) (.cons rfl (obRen_mp vi_frz (eM_frz eArr2_Str vi) rfl .nil)) rfl rfl) rfl rfl
 refine q2 ?_
 refine sk (.i 6 (vi 0) .n) ?_
 refine q3 ?_
 have h := si h
 subst h
 exact DoneS.ret (S' := ⟨[(6, vi 0)], [some (.row 7 [.agg [eS 1 vt a0, eS 1 vt a1, eS 4 eRoad a2, eS 3 eGrand a3, vi a4, vi a5, .map 1]]), some (.mp (mpE vi (eM eArr2_Str vi) a6))]⟩) (sc [0, 1] (by decide) (by kernel_rfl) (.cons rfl (obRen_mp vi_frz (eM_frz eArr2_Str vi) rfl .nil)) rfl rfl) rfl rfl
set_option maxHeartbeats 1000000 in
theorem diary_plan_place_ok (n : Nat) (a0 : List Str) (a1 : List Str) (a2 : List Road) (a3 : List Grand) (a4 : Int) (a5 : Int) (a6 : List (Int × List (Arr2_Str × Int))) (a7 : List Item) (a8 : Str) (a9 : Int) (r : Str) (h : diary_plan_place n a0 a1 a2 a3 a4 a5 a6 a7 a8 a9 = some r) : FnL Tryz.prog 198 [.ptr 0 0 0, eS 7 eItem a7, vt a8, vi a9] [some (.row 7 [.agg [eS 1 vt a0, eS 1 vt a1, eS 4 eRoad a2, eS 3 eGrand a3, vi a4, vi a5, .map 1]]), some (.mp (mpE vi (eM eArr2_Str vi) a6))] (vt r) [some (.row 7 [.agg [eS 1 vt a0, eS 1 vt a1, eS 4 eRoad a2, eS 3 eGrand a3, vi a4, vi a5, .map 1]]), some (.mp (mpE vi (eM eArr2_Str vi) a6))] := by
 dsimp only [diary_plan_place] at h
 refine fob [8] Tryz.call198 Tryz.func198 rfl (.cons rfl (.cons rfl .nil)) ?_
 refine sk .a ?_
 refine sj ?_
 refine rk 5 (.d (.k3 (.i 18 (.agg [eS 1 vt a0, eS 1 vt a1, eS 4 eRoad a2, eS 3 eGrand a3, vi a4, vi a5]) (.i 19 (vt a8) .n)))) ?_
 refine bK h fun y1 hy1 h => ?_
 refine jc 20 [18, 19] (diary_grand_ok n (Diary.mk a0 a1 a2 a3 a4 a5) a8 y1 hy1) ?_
 refine jko 6 (.d (.k3 (.i 9 (.ptr 2 0 0) .n))) [some (.row 7 [.agg [eS 1 vt a0, eS 1 vt a1, eS 4 eRoad a2, eS 3 eGrand a3, vi a4, vi a5, .map 1]]), some (.mp (mpE vi (eM eArr2_Str vi) a6)), some (.row 3 [.agg [vt y1.1, vt y1.2.1, vi y1.2.2.1]])] ?_
 refine sk (.k3 (.i 11 (vt y1.2.1) .n)) ?_
 refine TriE.seqK h (fun (v6 : Str) => St.mk [(11, vt v6)] [some (.row 7 [.agg [eS 1 vt a0, eS 1 vt a1, eS 4 eRoad a2, eS 3 eGrand a3, vi a4, vi a5, .map 1]]), some (.mp (mpE vi (eM eArr2_Str vi) a6))]) ?_ ?_
 ·rintro v6 h
  refine sk (.i 8 (vt v6) .n) ?_
  refine q3 ?_
  have h := si h
  subst h
  exact DoneS.ret Sees.refl rfl rfl
 intro k2 h
 refine sj ?_
 refine rk 1 (.d (.k3 (.i 25 (eS 7 eItem a7) .n))) ?_
 refine jo 26 (.len 0 25) (ok_len_m rfl) ?_
 refine jk 1 (.d (.k4 (.i 26 (vi (a7.length : Int)) (.i 27 (vi 0) .n)))) ?_
 refine q4 ?_
 refine TriE.sees (S' := ⟨[(2, vt a8), (3, vi a9), (11, vt y1.2.1), (25, eS 7 eItem a7), (26, vi (a7.length : Int)), (27, vi 0)], [some (.row 7 [.agg [eS 1 vt a0, eS 1 vt a1, eS 4 eRoad a2, eS 3 eGrand a3, vi a4, vi a5, .map 1]]), some (.mp (mpE vi (eM eArr2_Str vi) a6))]⟩) (sc [0, 1] (by decide) (by kernel_rfl) (.cons rfl (obRen_mp vi_frz (eM_frz eArr2_Str vi) rfl .nil)) rfl rfl) ?_
 refine TriE.loopN h (fun (t : Str × Nat) => match t with | (v3, v4) => St.mk [(2, vt a8), (3, vi a9), (11, vt v3), (25, eS 7 eItem a7), (26, vi (a7.length : Int)), (27, vi v4)] [some (.row 7 [.agg [eS 1 vt a0, eS 1 vt a1, eS 4 eRoad a2, eS 3 eGrand a3, vi a4, vi a5, .map 1]]), some (.mp (mpE vi (eM eArr2_Str vi) a6))]) rfl ?_
 clear h
 rintro back ⟨v3, v4⟩ h
 dsimp only [diary_plan_place_L1] at h
 refine sj ?_
 refine jo 28 (.bin .lss false 27 26) (n_lss (i := v4) (j := a7.length) rfl rfl) ?_
 refine jf (.d (.k4 (.k2 (.i 28 (vb (decide (v4 < a7.length))) .n)))) ?_
 refine q1 ?_
 refine tc h (fun c1 h => ?_) (fun c1 h => ?_)
 ·refine q2 ?_
  refine TriE.seqK h (fun (v5 : Str) => St.mk [(2, vt a8), (3, vi a9), (25, eS 7 eItem a7), (26, vi (a7.length : Int)), (27, vi v4), (11, vt v5)] [some (.row 7 [.agg [eS 1 vt a0, eS 1 vt a1, eS 4 eRoad a2, eS 3 eGrand a3, vi a4, vi a5, .map 1]]), some (.mp (mpE vi (eM eArr2_Str vi) a6))]) ?_ ?_
  ·rintro v5 h
   refine q6 ?_
   refine cK h fun c3 h => ?_
   refine jo 48 (.bin .add false 27 (ki 1)) (r_addn (i := v4) (j := 1) rfl rfl c3) ?_
   refine jk 1 (.d (.k4 (.d (.k (.i 27 (vi ((v4 + 1 : Nat) : Int)) .n))))) ?_
   exact Vs.intro sy ⟨(v5, v4 + 1), rfl, h⟩
  intro k1 h
  refine q4 ?_
  refine sj ?_
  refine jo 29 (.iaddr 7 25 27) (ok_iaddr_m (j := v4) rfl rfl rfl c1) ?_
  refine jo 30 (.load true 7 29) (ok_load_fm (v := .agg [vi ((ix a7 v4).Kind), vi ((ix a7 v4).From), vi ((ix a7 v4).To), vt ((ix a7 v4).Grand), vt ((ix a7 v4).Place), vt ((ix a7 v4).Who), vi ((ix a7 v4).Deposit)]) rfl c1 rfl) ?_
  refine jko 2 (.d2 (.k4 (.k2 (.i 13 (.ptr 2 0 0) .n)))) [some (.row 7 [.agg [eS 1 vt a0, eS 1 vt a1, eS 4 eRoad a2, eS 3 eGrand a3, vi a4, vi a5, .map 1]]), some (.mp (mpE vi (eM eArr2_Str vi) a6)), some (.row 7 [.agg [vi ((ix a7 v4).Kind), vi ((ix a7 v4).From), vi ((ix a7 v4).To), vt ((ix a7 v4).Grand), vt ((ix a7 v4).Place), vt ((ix a7 v4).Who), vi ((ix a7 v4).Deposit)]])] ?_
  refine sj ?_
  refine rk 4 (.k4 (.k3 (.i 34 (vb (((ix a7 v4).Kind) == (1 : Int))) .n))) ?_
  refine gj (.ptr 2 0 3) 35 (.faddr 3 13) 34 true rfl ?_
  refine gk (vt ((ix a7 v4).Grand)) 36 (.load false 1 35) 34 true rfl (fun hg => (.cons hg .nil)) ?_
  refine gj (vt a8) 37 (.mov 2) 34 true rfl ?_
  refine gk (vb (((ix a7 v4).Grand) == a8)) 38 (.bin .eql false 36 37) 34 true rfl (fun hg => (.cons hg (.cons hg .nil))) ?_
  refine pa 39 34 38 rfl rfl ?_
  refine rk 1 (.d4 (.d (.k4 (.k3 (.i 35 (.cond (((ix a7 v4).Kind) == (1 : Int)) (.ptr 2 0 3)) (.i 36 (.cond (((ix a7 v4).Kind) == (1 : Int)) (vt ((ix a7 v4).Grand))) (.i 37 (.cond (((ix a7 v4).Kind) == (1 : Int)) (vt a8)) (.i 38 (.cond (((ix a7 v4).Kind) == (1 : Int)) (vb (((ix a7 v4).Grand) == a8))) (.i 40 (vb ((((ix a7 v4).Kind) == (1 : Int)) && (((ix a7 v4).Grand) == a8))) .n))))))))) ?_
  refine gj (.ptr 2 0 2) 41 (.faddr 2 13) 40 true rfl ?_
  refine gk (vi ((ix a7 v4).To)) 42 (.load false 1 41) 40 true rfl (fun hg => (.cons hg .nil)) ?_
  refine gj (vi a9) 43 (.mov 3) 40 true rfl ?_
  refine gk (vb (decide (((ix a7 v4).To) ≤ a9))) 44 (.bin .leq false 42 43) 40 true rfl (fun hg => (.cons hg (.cons hg .nil))) ?_
  refine pa 45 40 44 rfl rfl ?_
  refine jf (.d4 (.d (.k4 (.k3 (.i 45 (vb (((((ix a7 v4).Kind) == (1 : Int)) && (((ix a7 v4).Grand) == a8)) && (decide (((ix a7 v4).To) ≤ a9)))) .n))))) ?_
  refine tc h (fun c2 h => ?_) (fun c2 h => ?_)
  ·refine tk (.k2 (.d (.k3 (.i 11 (vt ((ix a7 v4).Place)) .n)))) ?_
   exact Vs.intro (sc [0, 1] (by decide) (by kernel_rfl) (.cons rfl (obRen_mp vi_frz (eM_frz eArr2_Str vi) rfl .nil)) rfl rfl) ⟨((ix a7 v4).Place), rfl, h⟩
  refine q2 ?_
  exact Vs.intro (sc [0, 1] (by decide) (by kernel_rfl) (.cons rfl (obRen_mp vi_frz (eM_frz eArr2_Str vi) rfl .nil)) rfl rfl) ⟨v3, rfl, h⟩
 refine q5 ?_
 exact Vs.intro sy ⟨v3, rfl, h⟩
set_option maxHeartbeats 1000000 in
theorem diary_plan_stands_ok (n : Nat) (a0 : List Str) (a1 : List Str) (a2 : List Road) (a3 : List Grand) (a4 : Int) (a5 : Int) (a6 : List (Int × List (Arr2_Str × Int))) (a7 : List Item) (a8 : Item) (r : Int × (List (Int × List (Arr2_Str × Int)))) (h : diary_plan_stands n a0 a1 a2 a3 a4 a5 a6 a7 a8 = some r) : FnL Tryz.prog 145 [.ptr 0 0 0, eS 7 eItem a7, .agg [vi a8.Kind, vi a8.From, vi a8.To, vt a8.Grand, vt a8.Place, vt a8.Who, vi a8.Deposit]] [some (.row 7 [.agg [eS 1 vt a0, eS 1 vt a1, eS 4 eRoad a2, eS 3 eGrand a3, vi a4, vi a5, .map 1]]), some (.mp (mpE vi (eM eArr2_Str vi) a6))] (vi r.1) [some (.row 7 [.agg [eS 1 vt a0, eS 1 vt a1, eS 4 eRoad a2, eS 3 eGrand a3, vi a4, vi a5, .map 1]]), some (.mp (mpE vi (eM eArr2_Str vi) r.2))] := by
 dsimp only [diary_plan_stands] at h
 refine fob [6] Tryz.call145 Tryz.func145 rfl (.cons rfl (.cons rfl .nil)) ?_
 refine sko (.k2 (.i 5 (.ptr 2 0 0) .n)) [some (.row 7 [.agg [eS 1 vt a0, eS 1 vt a1, eS 4 eRoad a2, eS 3 eGrand a3, vi a4, vi a5, .map 1]]), some (.mp (mpE vi (eM eArr2_Str vi) a6)), some (.row 7 [.agg [vi a8.Kind, vi a8.From, vi a8.To, vt a8.Grand, vt a8.Place, vt a8.Who, vi a8.Deposit]])] ?_
 refine sj ?_
 refine rk 6 (.k (.d (.k (.i 12 (.ptr 0 0 0) (.i 13 (eS 7 eItem a7) (.i 15 (vt a8.Grand) (.i 17 (vi a8.From) .n))))))) ?_
 refine bK h fun y1 hy1 h => ?_
 refine jco (vt y1) 18 [12, 13, 15, 17] (diary_plan_place_ok n a0 a1 a2 a3 a4 a5 a6 a7 a8.Grand a8.From y1 hy1) [0, 1] rfl (.cons rfl (.same (mp_ren vi_frz (eM_frz eArr2_Str vi) _ _) .nil)) (.cons rfl (.same (mp_ren vi_frz (eM_frz eArr2_Str vi) _ _) .nil)) rfl ?_
 refine jk 1 (.d (.k2 (.i 7 (vt y1) .n))) ?_
 refine q1 ?_
 refine sk (.k3 (.i 21 (vb (a8.Kind != (1 : Int))) .n)) ?_
 refine tc h (fun c1 h => ?_) (fun c1 h => ?_)
 ·refine q1 ?_
  refine sk (.i 25 (vb (!(y1 == a8.Place))) .n) ?_
  refine tc h (fun c2 h => ?_) (fun c2 h => ?_)
  ·refine sk (.i 6 (vi 13) .n) ?_
   refine q3 ?_
   have h := si h
   subst h
   exact DoneS.ret (S' := ⟨[(6, vi 13)], [some (.row 7 [.agg [eS 1 vt a0, eS 1 vt a1, eS 4 eRoad a2, eS 3 eGrand a3, vi a4, vi a5, .map 1]]), some (.mp (mpE vi (eM eArr2_Str vi) a6))]⟩) (sc [0, 1] (by decide) (by kernel_rfl) (.cons rfl (obRen_mp vi_frz (eM_frz eArr2_Str vi) rfl .nil)) rfl rfl) rfl rfl
  refine q2 ?_
  refine sk (.i 6 (vi 0) .n) ?_
  refine q3 ?_
  have h := si h
  subst h
  exact DoneS.ret (S' := ⟨[(6, vi 0)], [some (.row 7 [.agg [eS 1 vt a0, eS 1 vt a1, eS 4 eRoad a2, eS 3 eGrand a3, vi a4, vi a5, .map 1]]), some (.mp (mpE vi (eM eArr2_Str vi) a6))]⟩) (sc [0, 1] (by decide) (by kernel_rfl) (.cons rfl (obRen_mp vi_frz (eM_frz eArr2_Str vi) rfl .nil)) rfl rfl) rfl rfl
 refine q2 ?_
 refine q1 ?_
 refine ts (.k3 .n) ?_
 refine TriE.draw (by kernel_rfl) ?_
 refine dk 6 (.i 32 (vt a8.Grand) (.i 31 (.ptr 2 0 3) (.i 30 (.agg [eS 1 vt a0, eS 1 vt a1, eS 4 eRoad a2, eS 3 eGrand a3, vi a4, vi a5]) (.i 29 (.ptr 0 0 0) (.i 28 (.ptr 0 0 0) (.i 27 (.ptr 0 0 0) .a)))))) ?_
 refine bK h fun y2 hy2 h => ?_
 refine dc (.tup [.agg [vt y2.1, vt y2.2.1, vi y2.2.2.1], vb y2.2.2.2]) 0 33 [30, 32] (diary_grand_ok n (Diary.mk a0 a1 a2 a3 a4 a5) a8.Grand y2 hy2) [] rfl ObsRen.nil ObsRen.nil rfl (.inr ⟨rfl, rfl⟩) ?_
 refine dko 6 (.i 9 (vb y2.2.2.2) (.i 8 (.ptr 13 0 0) (.i 35 (vb y2.2.2.2) (.i 34 (.agg [vt y2.1, vt y2.2.1, vi y2.2.2.1]) (.i 26 (.tup [.agg [vt y2.1, vt y2.2.1, vi y2.2.2.1], vb y2.2.2.2]) .a))))) [some (.row 7 [.agg [eS 1 vt a0, eS 1 vt a1, eS 4 eRoad a2, eS 3 eGrand a3, vi a4, vi a5, .map 1]]), some (.mp (mpE vi (eM eArr2_Str vi) a6)), some (.row 7 [.agg [vi a8.Kind, vi a8.From, vi a8.To, vt a8.Grand, vt a8.Place, vt a8.Who, vi a8.Deposit]]), none, none, none, none, none, none, none, none, none, none, some (.row 3 [.agg [vt y2.1, vt y2.2.1, vi y2.2.2.1]]), none, none] ?_
 refine dfi (ob' := [some (.row 7 [.agg [eS 1 vt a0, eS 1 vt a1, eS 4 eRoad a2, eS 3 eGrand a3, vi a4, vi a5, .map 1]]), some (.mp (mpE vi (eM eArr2_Str vi) a6)), some (.row 7 [.agg [vi a8.Kind, vi a8.From, vi a8.To, vt a8.Grand, vt a8.Place, vt a8.Who, vi a8.Deposit]]), some (.row 3 [.agg [vt y2.1, vt y2.2.1, vi y2.2.2.1]])]) (.d4 (.d4 (.d4 (.k3 (.i 8 (.ptr 3 0 0) .n))))) [0, 1, 2, 13] (.cons rfl (obRen_mp vi_frz (eM_frz eArr2_Str vi) rfl (.cons rfl (.cons rfl .nil)))) ?_
 refine sj ?_
 refine rk 6 (.d (.k2 (.i 37 (.ptr 0 0 0) (.i 38 (vt y1) (.i 40 (vt a8.Place) (.i 42 (vi y2.2.2.1) .n)))))) ?_
 refine bK h fun y3 hy3 h => ?_
 refine jco (.tup [vi y3.1, vb y3.2.1]) 43 [37, 38, 40, 42] (diary_plan_distance_ok n a0 a1 a2 a3 a4 a5 a6 y1 a8.Place y2.2.2.1 y3 hy3) [0, 1] rfl (.cons rfl (.same (mp_ren vi_frz (eM_frz eArr2_Str vi) _ _) .nil)) (.cons rfl (.same (mp_ren vi_frz (eM_frz eArr2_Str vi) _ _) .nil)) rfl ?_
 refine jk 5 (.d (.k2 (.i 10 (vi y3.1) (.i 11 (vb y3.2.1) .n)))) ?_
 refine q7 ?_
 refine sk (.k (.d (.k2 (.i 46 (vb (y1 == a8.Place)) .n)))) ?_
 refine tc h (fun c3 h => ?_) (fun c3 h => ?_)
 ·refine sk (.i 6 (vi 24) .n) ?_
  refine q3 ?_
  have h := si h
  subst h
  exact DoneS.ret (S' := ⟨[(6, vi 24)], [some (.row 7 [.agg [eS 1 vt a0, eS 1 vt a1, eS 4 eRoad a2, eS 3 eGrand a3, vi a4, vi a5, .map 1]]), some (.mp (mpE vi (eM eArr2_Str vi) y3.2.2))]⟩) (sc [0, 1] (by decide) (by kernel_rfl) (.cons rfl (obRen_mp vi_frz (eM_frz eArr2_Str vi) rfl .nil)) rfl rfl) rfl rfl
 refine sk (.k2 (.i 51 (vb (!y3.2.1)) .n)) ?_
 refine tc h (fun c4 h => ?_) (fun c4 h => ?_)
 ·refine sk (.i 6 (vi 12) .n) ?_
  refine q3 ?_
  have h := si h
  subst h
  exact DoneS.ret (S' := ⟨[(6, vi 12)], [some (.row 7 [.agg [eS 1 vt a0, eS 1 vt a1, eS 4 eRoad a2, eS 3 eGrand a3, vi a4, vi a5, .map 1]]), some (.mp (mpE vi (eM eArr2_Str vi) y3.2.2))]⟩) (sc [0, 1] (by decide) (by kernel_rfl) (.cons rfl (obRen_mp vi_frz (eM_frz eArr2_Str vi) rfl .nil)) rfl rfl) rfl rfl
 refine sj ?_
 refine rk 5 (.i 55 (vi y3.1) (.i 57 (vi a8.To) (.i 59 (vi a8.From) .n))) ?_
 refine cK h fun c5 h => ?_
 refine jo 60 (.bin .sub false 57 59) (r_sub rfl rfl c5) ?_
 refine jk 2 (.i 54 (vb (decide ((a8.To - a8.From) < y3.1))) .n) ?_
 refine tc h (fun c6 h => ?_) (fun c6 h => ?_)
 ·refine sk (.i 6 (vi 18) .n) ?_
  refine q3 ?_
  have h := si h
  subst h
  exact DoneS.ret (S' := ⟨[(6, vi 18)], [some (.row 7 [.agg [eS 1 vt a0, eS 1 vt a1, eS 4 eRoad a2, eS 3 eGrand a3, vi a4, vi a5, .map 1]]), some (.mp (mpE vi (eM eArr2_Str vi) y3.2.2))]⟩) (sc [0, 1] (by decide) (by kernel_rfl) (.cons rfl (obRen_mp vi_frz (eM_frz eArr2_Str vi) rfl .nil)) rfl rfl) rfl rfl
 refine q2 ?_
 refine sk (.i 6 (vi 0) .n) ?_
 refine q3 ?_
 have h := si h
 subst h
 exact DoneS.ret (S' := ⟨[(6, vi 0)], [some (.row 7 [.agg [eS 1 vt a0, eS 1 vt a1, eS 4 eRoad a2, eS 3 eGrand a3, vi a4, vi a5, .map 1]]), some (.mp (mpE vi (eM eArr2_Str vi) y3.2.2))]⟩) (sc [0, 1] (by decide) (by kernel_rfl) (.cons rfl (obRen_mp vi_frz (eM_frz eArr2_Str vi) rfl .nil)) rfl rfl) rfl rfl
set_option maxHeartbeats 1000000 in
theorem diary_plan_travels_ok (n : Nat) (a0 : List Str) (a1 : List Str) (a2 : List Road) (a3 : List Grand) (a4 : Int) (a5 : Int) (a6 : List (Int × List (Arr2_Str × Int))) (a7 : List Item) (a8 : Item) (r : Int × (List (Int × List (Arr2_Str × Int)))) (h : diary_plan_travels n a0 a1 a2 a3 a4 a5 a6 a7 a8 = some r) : FnL Tryz.prog 146 [.ptr 0 0 0, eS 7 eItem a7, .agg [vi a8.Kind, vi a8.From, vi a8.To, vt a8.Grand, vt a8.Place, vt a8.Who, vi a8.Deposit]] [some (.row 7 [.agg [eS 1 vt a0, eS 1 vt a1, eS 4 eRoad a2, eS 3 eGrand a3, vi a4, vi a5, .map 1]]), some (.mp (mpE vi (eM eArr2_Str vi) a6))] (vi r.1) [some (.row 7 [.agg [eS 1 vt a0, eS 1 vt a1, eS 4 eRoad a2, eS 3 eGrand a3, vi a4, vi a5, .map 1]]), some (.mp (mpE vi (eM eArr2_Str vi) r.2))] := by
 dsimp only [diary_plan_travels] at h
 refine fob [6] Tryz.call146 Tryz.func146 rfl (.cons rfl (.cons rfl .nil)) ?_
 refine sko (.k2 (.i 5 (.ptr 2 0 0) .n)) [some (.row 7 [.agg [eS 1 vt a0, eS 1 vt a1, eS 4 eRoad a2, eS 3 eGrand a3, vi a4, vi a5, .map 1]]), some (.mp (mpE vi (eM eArr2_Str vi) a6)), some (.row 7 [.agg [vi a8.Kind, vi a8.From, vi a8.To, vt a8.Grand, vt a8.Place, vt a8.Who, vi a8.Deposit]])] ?_
 refine q1 ?_
 refine sk (.k3 (.i 13 (vb (a8.Kind != (0 : Int))) .n)) ?_
 refine tc h (fun c1 h => ?_) (fun c1 h => ?_)
 ·refine sk (.i 6 (vi 0) .n) ?_
  refine q3 ?_
  have h := si h
  subst h
  exact DoneS.ret (S' := ⟨[(6, vi 0)], [some (.row 7 [.agg [eS 1 vt a0, eS 1 vt a1, eS 4 eRoad a2, eS 3 eGrand a3, vi a4, vi a5, .map 1]]), some (.mp (mpE vi (eM eArr2_Str vi) a6))]⟩) (sc [0, 1] (by decide) (by kernel_rfl) (.cons rfl (obRen_mp vi_frz (eM_frz eArr2_Str vi) rfl .nil)) rfl rfl) rfl rfl
 refine q2 ?_
 refine TriE.seqK h (fun (v7 : (List (Int × List (Arr2_Str × Int)))) => St.mk [] [some (.row 7 [.agg [eS 1 vt a0, eS 1 vt a1, eS 4 eRoad a2, eS 3 eGrand a3, vi a4, vi a5, .map 1]]), some (.mp (mpE vi (eM eArr2_Str vi) v7))]) ?_ ?_
 ·rintro v7 h
  refine sk (.i 6 (vi 0) .n) ?_
  refine q3 ?_
  have h := si h
  subst h
  exact DoneS.ret Sees.refl rfl rfl
 intro k2 h
 refine sj ?_
 refine rk 1 (.k (.d (.k (.i 14 (eS 7 eItem a7) .n)))) ?_
 refine jo 15 (.len 0 14) (ok_len_m rfl) ?_
 refine jk 1 (.d (.k3 (.i 15 (vi (a7.length : Int)) (.i 16 (vi 0) .n)))) ?_
 refine q4 ?_
 refine ts (.k4 (.i 16 (vi 0) .n)) ?_
 refine TriE.loopN h (fun (t : Nat × (List (Int × List (Arr2_Str × Int)))) => match t with | (v3, v4) => St.mk [(0, .ptr 0 0 0), (5, .ptr 2 0 0), (14, eS 7 eItem a7), (15, vi (a7.length : Int)), (16, vi v3)] [some (.row 7 [.agg [eS 1 vt a0, eS 1 vt a1, eS 4 eRoad a2, eS 3 eGrand a3, vi a4, vi a5, .map 1]]), some (.mp (mpE vi (eM eArr2_Str vi) v4)), some (.row 7 [.agg [vi a8.Kind, vi a8.From, vi a8.To, vt a8.Grand, vt a8.Place, vt a8.Who, vi a8.Deposit]])]) rfl ?_
 clear h
 rintro back ⟨v3, v4⟩ h
 dsimp only [diary_plan_travels_L1] at h
 refine sj ?_
 refine jo 17 (.bin .lss false 16 15) (n_lss (i := v3) (j := a7.length) rfl rfl) ?_
 refine jf (.d (.k4 (.k (.i 17 (vb (decide (v3 < a7.length))) .n)))) ?_
 refine q1 ?_
 refine tc h (fun c2 h => ?_) (fun c2 h => ?_)
 ·refine q2 ?_
  refine TriE.seqK h (fun (v6 : (List (Int × List (Arr2_Str × Int)))) => St.mk [(0, .ptr 0 0 0), (5, .ptr 2 0 0), (14, eS 7 eItem a7), (15, vi (a7.length : Int)), (16, vi v3)] [some (.row 7 [.agg [eS 1 vt a0, eS 1 vt a1, eS 4 eRoad a2, eS 3 eGrand a3, vi a4, vi a5, .map 1]]), some (.mp (mpE vi (eM eArr2_Str vi) v6)), some (.row 7 [.agg [vi a8.Kind, vi a8.From, vi a8.To, vt a8.Grand, vt a8.Place, vt a8.Who, vi a8.Deposit]])]) ?_ ?_
  ·rintro v6 h
   refine q6 ?_
   refine cK h fun c6 h => ?_
   refine jo 50 (.bin .add false 16 (ki 1)) (r_addn (i := v3) (j := 1) rfl rfl c6) ?_
   refine jk 1 (.d (.k4 (.i 16 (vi ((v3 + 1 : Nat) : Int)) .n))) ?_
   exact Vs.intro sy ⟨(v3 + 1, v6), rfl, h⟩
  intro k1 h
  refine q4 ?_
  refine sj ?_
  refine jo 18 (.iaddr 7 14 16) (ok_iaddr_m (j := v3) rfl rfl rfl c2) ?_
  refine jo 19 (.load true 7 18) (ok_load_fm (v := .agg [vi ((ix a7 v3).Kind), vi ((ix a7 v3).From), vi ((ix a7 v3).To), vt ((ix a7 v3).Grand), vt ((ix a7 v3).Place), vt ((ix a7 v3).Who), vi ((ix a7 v3).Deposit)]) rfl c2 rfl) ?_
  refine jko 2 (.d2 (.k4 (.k (.i 8 (.ptr 3 0 0) .n)))) [some (.row 7 [.agg [eS 1 vt a0, eS 1 vt a1, eS 4 eRoad a2, eS 3 eGrand a3, vi a4, vi a5, .map 1]]), some (.mp (mpE vi (eM eArr2_Str vi) v4)), some (.row 7 [.agg [vi a8.Kind, vi a8.From, vi a8.To, vt a8.Grand, vt a8.Place, vt a8.Who, vi a8.Deposit]]), some (.row 7 [.agg [vi ((ix a7 v3).Kind), vi ((ix a7 v3).From), vi ((ix a7 v3).To), vt ((ix a7 v3).Grand), vt ((ix a7 v3).Place), vt ((ix a7 v3).Who), vi ((ix a7 v3).Deposit)]])] ?_
  refine q1 ?_
  refine sj ?_
  refine rk 4 (.k4 (.k2 (.i 23 (vb (((ix a7 v3).Kind) != (0 : Int))) .n))) ?_
  refine gj (.ptr 3 0 5) 24 (.faddr 5 8) 23 false rfl ?_
  refine gk (vt ((ix a7 v3).Who)) 25 (.load false 1 24) 23 false rfl (fun hg => (.cons hg .nil)) ?_
  refine gj (.ptr 2 0 5) 26 (.faddr 5 5) 23 false rfl ?_
  refine gk (vt a8.Who) 27 (.load false 1 26) 23 false rfl (fun hg => (.cons hg .nil)) ?_
  refine gk (vb (!(((ix a7 v3).Who) == a8.Who))) 28 (.bin .neq false 25 27) 23 false rfl (fun hg => (.cons hg (.cons hg .nil))) ?_
  refine po 29 23 28 rfl rfl ?_
  refine jf (.d4 (.d2 (.k4 (.k2 (.i 29 (vb ((((ix a7 v3).Kind) != (0 : Int)) || (!(((ix a7 v3).Who) == a8.Who)))) .n))))) ?_
  refine tc h (fun c3 h => ?_) (fun c3 h => ?_)
  ·refine q5 ?_
   exact Vs.intro (sc [0, 1, 2] (by decide) (by kernel_rfl) (.cons rfl (obRen_mp vi_frz (eM_frz eArr2_Str vi) rfl (.cons rfl .nil))) rfl rfl) ⟨v4, rfl, h⟩
  refine q2 ?_
  refine sj ?_
  refine rk 5 (.k4 (.k2 (.i 31 (.ptr 0 0 0) (.i 33 (vt ((ix a7 v3).Place)) (.i 35 (vt a8.Place) .n))))) ?_
  refine bK h fun y5 hy5 h => ?_
  refine jco (.tup [vi y5.1, vb y5.2.1]) 36 [31, 33, 35, (ki 1)] (diary_plan_distance_ok n a0 a1 a2 a3 a4 a5 v4 ((ix a7 v3).Place) a8.Place 1 y5 hy5) [0, 1] rfl (.cons rfl (.same (mp_ren vi_frz (eM_frz eArr2_Str vi) _ _) .nil)) (.cons rfl (.same (mp_ren vi_frz (eM_frz eArr2_Str vi) _ _) .nil)) rfl ?_
  refine jk 5 (.d (.k4 (.k2 (.i 9 (vi y5.1) (.i 10 (vb y5.2.1) .n))))) ?_
  refine sj ?_
  refine rk 3 (.k4 (.k3 (.i 41 (vb (!y5.2.1)) .n))) ?_
  refine gj (.ptr 2 0 1) 42 (.faddr 1 5) 41 false rfl ?_
  refine gk (vi a8.From) 43 (.load false 1 42) 41 false rfl (fun hg => (.cons hg .nil)) ?_
  refine gj (.ptr 3 0 2) 44 (.faddr 2 8) 41 false rfl ?_
  refine gk (vi ((ix a7 v3).To)) 45 (.load false 1 44) 41 false rfl (fun hg => (.cons hg .nil)) ?_
  refine gj (vi y5.1) 46 (.mov 9) 41 false rfl ?_
  refine cK h fun c4 h => ?_
  refine gv 47 (.bin .add false 45 46) 41 false rfl (fun hg => (r_add rfl rfl (gor c4 hg))) (fun hg => (.cons hg (.cons hg .nil))) ?_
  refine gk (vb (decide (a8.From < (((ix a7 v3).To) + y5.1)))) 48 (.bin .lss false 43 47) 41 false rfl (fun hg => (.cons hg (.cons hg .nil))) ?_
  refine po 49 41 48 rfl rfl ?_
  refine jf (.d4 (.d4 (.k4 (.k (.i 49 (vb ((!y5.2.1) || (decide (a8.From < (((ix a7 v3).To) + y5.1))))) .n))))) ?_
  refine tc h (fun c5 h => ?_) (fun c5 h => ?_)
  ·refine sk (.i 6 (vi 16) .n) ?_
   refine q3 ?_
   have h := si h
   subst h
   exact DoneS.ret (S' := ⟨[(6, vi 16)], [some (.row 7 [.agg [eS 1 vt a0, eS 1 vt a1, eS 4 eRoad a2, eS 3 eGrand a3, vi a4, vi a5, .map 1]]), some (.mp (mpE vi (eM eArr2_Str vi) y5.2.2))]⟩) (sc [0, 1] (by decide) (by kernel_rfl) (.cons rfl (obRen_mp vi_frz (eM_frz eArr2_Str vi) rfl .nil)) rfl rfl) rfl rfl
  refine q2 ?_
  exact Vs.intro (sc [0, 1, 2] (by decide) (by kernel_rfl) (.cons rfl (obRen_mp vi_frz (eM_frz eArr2_Str vi) rfl (.cons rfl .nil))) rfl rfl) ⟨y5.2.2, rfl, h⟩
 refine q5 ?_
 exact Vs.intro (sc [0, 1] (by decide) (by kernel_rfl) (.cons rfl (obRen_mp vi_frz (eM_frz eArr2_Str vi) rfl .nil)) rfl rfl) ⟨v4, rfl, h⟩
theorem diary_plan_tuning_ok (n : Nat) (a0 : List Str) (a1 : List Str) (a2 : List Road) (a3 : List Grand) (a4 : Int) (a5 : Int) (a6 : List (Int × List (Arr2_Str × Int))) (a7 : List Item) (a8 : Item) (r : Int) (h : diary_plan_tuning n a0 a1 a2 a3 a4 a5 a6 a7 a8 = some r) : FnL Tryz.prog 199 [.ptr 0 0 0, eS 7 eItem a7, .agg [vi a8.Kind, vi a8.From, vi a8.To, vt a8.Grand, vt a8.Place, vt a8.Who, vi a8.Deposit]] [some (.row 7 [.agg [eS 1 vt a0, eS 1 vt a1, eS 4 eRoad a2, eS 3 eGrand a3, vi a4, vi a5, .map 1]]), some (.mp (mpE vi (eM eArr2_Str vi) a6))] (vi r) [some (.row 7 [.agg [eS 1 vt a0, eS 1 vt a1, eS 4 eRoad a2, eS 3 eGrand a3, vi a4, vi a5, .map 1]]), some (.mp (mpE vi (eM eArr2_Str vi) a6))] := by
 refine cK h fun c h => ?_
 cases h
 exact FnL_tune (k := 7) (l := a7) (hall_of (.cons rfl (.cons rfl .nil))) rfl (Nat.zero_lt_succ _) (by decide) rfl (els_fr2 (e := eItem) (l := a7) rfl) (fun _ h => nomatch h) (of_decide_eq_true c)
theorem diary_plan_isTuned_ok (n : Nat) (a0 : List Str) (a1 : List Str) (a2 : List Road) (a3 : List Grand) (a4 : Int) (a5 : Int) (a6 : List (Int × List (Arr2_Str × Int))) (a7 : List Item) (a8 : Item) (r : Int) (h : diary_plan_isTuned n a0 a1 a2 a3 a4 a5 a6 a7 a8 = some r) : FnL Tryz.prog 147 [.ptr 0 0 0, eS 7 eItem a7, .agg [vi a8.Kind, vi a8.From, vi a8.To, vt a8.Grand, vt a8.Place, vt a8.Who, vi a8.Deposit]] [some (.row 7 [.agg [eS 1 vt a0, eS 1 vt a1, eS 4 eRoad a2, eS 3 eGrand a3, vi a4, vi a5, .map 1]]), some (.mp (mpE vi (eM eArr2_Str vi) a6))] (vi r) [some (.row 7 [.agg [eS 1 vt a0, eS 1 vt a1, eS 4 eRoad a2, eS 3 eGrand a3, vi a4, vi a5, .map 1]]), some (.mp (mpE vi (eM eArr2_Str vi) a6))] := by
 dsimp only [diary_plan_isTuned] at h
 refine fob [6] Tryz.call147 Tryz.func147 rfl (.cons rfl (.cons rfl .nil)) ?_
 refine sko (.k2 (.i 5 (.ptr 2 0 0) .n)) [some (.row 7 [.agg [eS 1 vt a0, eS 1 vt a1, eS 4 eRoad a2, eS 3 eGrand a3, vi a4, vi a5, .map 1]]), some (.mp (mpE vi (eM eArr2_Str vi) a6)), some (.row 7 [.agg [vi a8.Kind, vi a8.From, vi a8.To, vt a8.Grand, vt a8.Place, vt a8.Who, vi a8.Deposit]])] ?_
 refine q1 ?_
 refine sj ?_
 refine rk 4 (.k3 (.i 10 (vb (a8.Kind == (2 : Int))) .n)) ?_
 refine gj (.ptr 0 0 0) 11 (.mov 0) 10 true rfl ?_
 refine gj (eS 7 eItem a7) 12 (.mov 1) 10 true rfl ?_
 refine gj (.agg [vi a8.Kind, vi a8.From, vi a8.To, vt a8.Grand, vt a8.Place, vt a8.Who, vi a8.Deposit]) 13 (.load true 7 5) 10 true rfl ?_
 refine bK h fun y1 hy1 h => ?_
 refine RegJ.op (Op1.callg (g := (a8.Kind == (2 : Int))) (y' := vi y1) (obx := [some (.row 7 [.agg [eS 1 vt a0, eS 1 vt a1, eS 4 eRoad a2, eS 3 eGrand a3, vi a4, vi a5, .map 1]]), some (.mp (mpE vi (eM eArr2_Str vi) a6))]) _ _ (cy (IG 14 (.call 199 [11, 12, 13]) 10 true)) rfl (fun hg => diary_plan_tuning_ok n a0 a1 a2 a3 a4 a5 a6 a7 a8 y1 (gcall_some hy1 hg)) [0, 1] (fun hg => by kernel_rfl) (fun hg => (.cons rfl (.cons hg (.cons hg (.cons hg .nil))))) (by kernel_rfl) (by kernel_rfl) (.cons rfl (.same (mp_ren vi_frz (eM_frz eArr2_Str vi) _ _) .nil)) (by kernel_rfl) (by kernel_rfl)) ?_
 refine gk (vb (decide (y1 < (0 : Int)))) 15 (.bin .lss false 14 (ki 0)) 10 true rfl (fun hg => (.cons hg (.cons rfl .nil))) ?_
 refine pa 16 10 15 rfl rfl ?_
 refine jf (.i 16 (vb ((a8.Kind == (2 : Int)) && (decide (y1 < (0 : Int))))) .n) ?_
 refine tc h (fun c1 h => ?_) (fun c1 h => ?_)
 ·refine sk (.i 6 (vi 26) .n) ?_
  refine q3 ?_
  have h := si h
  subst h
  exact DoneS.ret (S' := ⟨[(6, vi 26)], [some (.row 7 [.agg [eS 1 vt a0, eS 1 vt a1, eS 4 eRoad a2, eS 3 eGrand a3, vi a4, vi a5, .map 1]]), some (.mp (mpE vi (eM eArr2_Str vi) a6))]⟩) (sc [0, 1] (by decide) (by kernel_rfl) (.cons rfl (obRen_mp vi_frz (eM_frz eArr2_Str vi) rfl .nil)) rfl rfl) rfl rfl
 refine q2 ?_
 refine sk (.i 6 (vi 0) .n) ?_
 refine q3 ?_
 have h := si h
 subst h
 exact DoneS.ret (S' := ⟨[(6, vi 0)], [some (.row 7 [.agg [eS 1 vt a0, eS 1 vt a1, eS 4 eRoad a2, eS 3 eGrand a3, vi a4, vi a5, .map 1]]), some (.mp (mpE vi (eM eArr2_Str vi) a6))]⟩) (sc [0, 1] (by decide) (by kernel_rfl) (.cons rfl (obRen_mp vi_frz (eM_frz eArr2_Str vi) rfl .nil)) rfl rfl) rfl rfl
set_option maxHeartbeats 1000000 in
theorem diary_plan_accept_2_ok (n : Nat) (a0 : List Str) (a1 : List Str) (a2 : List Road) (a3 : List Grand) (a4 : Int) (a5 : Int) (a6 : List (Int × List (Arr2_Str × Int))) (a7 : List Item) (r : Int × Int × (List (Int × List (Arr2_Str × Int)))) (h : diary_plan_accept_2 n a0 a1 a2 a3 a4 a5 a6 a7 = some r) : FnL Tryz.prog 99 [.ptr 0 0 0, eS 7 eItem a7] [some (.row 7 [.agg [eS 1 vt a0, eS 1 vt a1, eS 4 eRoad a2, eS 3 eGrand a3, vi a4, vi a5, .map 1]]), some (.mp (mpE vi (eM eArr2_Str vi) a6))] (.tup [vi r.1, vi r.2.1]) [some (.row 7 [.agg [eS 1 vt a0, eS 1 vt a1, eS 4 eRoad a2, eS 3 eGrand a3, vi a4, vi a5, .map 1]]), some (.mp (mpE vi (eM eArr2_Str vi) r.2.2))] := by
 dsimp only [diary_plan_accept_2] at h
 refine fob [4, 5] Tryz.call99 Tryz.func99 rfl (.cons rfl (.cons rfl .nil)) ?_
 refine sk .a ?_
 refine q1 ?_
 refine sj ?_
 refine rk 1 (.k2 (.i 12 (eS 7 eItem a7) .n)) ?_
 refine jo 13 (.len 0 12) (ok_len_m rfl) ?_
 refine jo 14 (.bin .gtr false 13 (ki 100)) (n_gtr (i := a7.length) (j := 100) rfl rfl) ?_
 refine jf (.d2 (.k2 (.i 14 (vb (decide (100 < a7.length))) .n))) ?_
 refine tc h (fun c1 h => ?_) (fun c1 h => ?_)
 ·refine sk (.i 4 (vi 0) (.i 5 (vi 8) .n)) ?_
  refine q3 ?_
  have h := si h
  subst h
  exact DoneS.ret Sees.refl rfl rfl
 refine q2 ?_
 refine TriE.seqK h (fun (v13 : (List (Int × List (Arr2_Str × Int)))) => St.mk [] [some (.row 7 [.agg [eS 1 vt a0, eS 1 vt a1, eS 4 eRoad a2, eS 3 eGrand a3, vi a4, vi a5, .map 1]]), some (.mp (mpE vi (eM eArr2_Str vi) v13))]) ?_ ?_
 ·rintro v13 h
  refine sk (.i 4 (vi (-1)) (.i 5 (vi 0) .n)) ?_
  refine q3 ?_
  have h := si h
  subst h
  exact DoneS.ret Sees.refl rfl rfl
 intro k1 h
 refine sj ?_
 refine rk 1 (.k2 (.i 15 (eS 7 eItem a7) .n)) ?_
 refine jo 16 (.len 0 15) (ok_len_m rfl) ?_
 refine jk 1 (.d (.k3 (.i 16 (vi (a7.length : Int)) (.i 17 (vi 0) .n)))) ?_
 refine q4 ?_
 refine TriE.loopN h (fun (t : Int × (List (Int × List (Arr2_Str × Int)))) => match t with | (v6, v7) => St.mk [(0, .ptr 0 0 0), (1, eS 7 eItem a7), (15, eS 7 eItem a7), (16, vi (a7.length : Int)), (17, vi v6)] [some (.row 7 [.agg [eS 1 vt a0, eS 1 vt a1, eS 4 eRoad a2, eS 3 eGrand a3, vi a4, vi a5, .map 1]]), some (.mp (mpE vi (eM eArr2_Str vi) v7))]) rfl ?_
 clear h
 rintro back ⟨v6, v7⟩ h
 dsimp only [diary_plan_accept_2_L1] at h
 refine sk (.k4 (.k (.i 18 (vb (decide (v6 < (a7.length : Int)))) .n))) ?_
 refine q1 ?_
 refine tc h (fun c2 h => ?_) (fun c2 h => ?_)
 ·refine q2 ?_
  refine q7 ?_
  refine sj ?_
  refine rk 1 (.k4 (.k (.i 19 (vi v6) .n))) ?_
  refine cK h fun c3 h => ?_
  refine jo 20 (.iaddr 7 15 17) (ok_iaddr_m (j := v6.toNat) rfl rfl (inB_to c3) (inB_lt c3)) ?_
  refine cK h fun c4 h => ?_
  refine jo 21 (.load true 7 20) (ok_load_fm (v := .agg [vi ((ix a7 v6.toNat).Kind), vi ((ix a7 v6.toNat).From), vi ((ix a7 v6.toNat).To), vt ((ix a7 v6.toNat).Grand), vt ((ix a7 v6.toNat).Place), vt ((ix a7 v6.toNat).Who), vi ((ix a7 v6.toNat).Deposit)]) rfl c4 rfl) ?_
  refine jko 3 (.d2 (.k4 (.k (.i 7 (.ptr 2 0 0) (.i 6 (vi v6) .n))))) [some (.row 7 [.agg [eS 1 vt a0, eS 1 vt a1, eS 4 eRoad a2, eS 3 eGrand a3, vi a4, vi a5, .map 1]]), some (.mp (mpE vi (eM eArr2_Str vi) v7)), some (.row 7 [.agg [vi ((ix a7 v6.toNat).Kind), vi ((ix a7 v6.toNat).From), vi ((ix a7 v6.toNat).To), vt ((ix a7 v6.toNat).Grand), vt ((ix a7 v6.toNat).Place), vt ((ix a7 v6.toNat).Who), vi ((ix a7 v6.toNat).Deposit)]])] ?_
  refine q1 ?_
  refine q1 ?_
  refine ts .a ?_
  refine TriE.draw (by kernel_rfl) ?_
  refine dk 5 (.i 26 (.agg [vi ((ix a7 v6.toNat).Kind), vi ((ix a7 v6.toNat).From), vi ((ix a7 v6.toNat).To), vt ((ix a7 v6.toNat).Grand), vt ((ix a7 v6.toNat).Place), vt ((ix a7 v6.toNat).Who), vi ((ix a7 v6.toNat).Deposit)]) (.i 25 (.agg [eS 1 vt a0, eS 1 vt a1, eS 4 eRoad a2, eS 3 eGrand a3, vi a4, vi a5]) (.i 24 (.ptr 0 0 0) (.i 23 (.ptr 0 0 0) (.i 22 (.ptr 0 0 0) .a))))) ?_
  refine bK h fun y8 hy8 h => ?_
  refine dc (vi y8) 0 27 [25, 26] (diary_checkItem_ok n (Diary.mk a0 a1 a2 a3 a4 a5) (ix a7 v6.toNat) y8 hy8) [] rfl ObsRen.nil ObsRen.nil rfl (.inr ⟨rfl, rfl⟩) ?_
  refine dk 1 (.i 8 (vi y8) .a) ?_
  refine dfi (ob' := [some (.row 7 [.agg [eS 1 vt a0, eS 1 vt a1, eS 4 eRoad a2, eS 3 eGrand a3, vi a4, vi a5, .map 1]]), some (.mp (mpE vi (eM eArr2_Str vi) v7)), some (.row 7 [.agg [vi ((ix a7 v6.toNat).Kind), vi ((ix a7 v6.toNat).From), vi ((ix a7 v6.toNat).To), vt ((ix a7 v6.toNat).Grand), vt ((ix a7 v6.toNat).Place), vt ((ix a7 v6.toNat).Who), vi ((ix a7 v6.toNat).Deposit)]])]) (.d4 (.d3 (.k4 (.k3 (.i 8 (vi y8) .n))))) [0, 1, 2] (.cons rfl (obRen_mp vi_frz (eM_frz eArr2_Str vi) rfl (.cons rfl .nil))) ?_
  refine sk (.k4 (.k4 (.i 29 (vb (y8 != (0 : Int))) .n))) ?_
  refine tc h (fun c5 h => ?_) (fun c5 h => ?_)
  ·refine sk (.i 4 (vi v6) (.i 5 (vi y8) .n)) ?_
   refine q3 ?_
   have h := si h
   subst h
   exact DoneS.ret (S' := ⟨[(4, vi v6), (5, vi y8)], [some (.row 7 [.agg [eS 1 vt a0, eS 1 vt a1, eS 4 eRoad a2, eS 3 eGrand a3, vi a4, vi a5, .map 1]]), some (.mp (mpE vi (eM eArr2_Str vi) v7))]⟩) (sc [0, 1] (by decide) (by kernel_rfl) (.cons rfl (obRen_mp vi_frz (eM_frz eArr2_Str vi) rfl .nil)) rfl rfl) rfl rfl
  refine q2 ?_
  refine q1 ?_
  refine q1 ?_
  refine ts (.k4 (.k3 .n)) ?_
  refine TriE.draw (by kernel_rfl) ?_
  refine dk 3 (.i 34 (vb (decide ((0 : Int) < v6))) (.i 33 (vb (decide ((0 : Int) < v6))) (.i 32 (vi v6) .a))) ?_
  refine gd (decide ((0 : Int) < v6)) (.ptr 2 0 1) 35 (.faddr 1 7) 34 true rfl (fun hg => (.cons rfl .nil)) ?_
  refine gd (decide ((0 : Int) < v6)) (vi ((ix a7 v6.toNat).From)) 36 (.load false 1 35) 34 true rfl (fun hg => (.cons hg .nil)) ?_
  refine gd (decide ((0 : Int) < v6)) (eS 7 eItem a7) 37 (.mov 1) 34 true rfl (fun hg => (.cons rfl .nil)) ?_
  refine gd (decide ((0 : Int) < v6)) (vi v6) 38 (.mov 6) 34 true rfl (fun hg => (.cons rfl .nil)) ?_
  refine cK h fun c6 h => ?_
  refine gu (decide ((0 : Int) < v6)) 39 (.bin .sub false 38 (ki 1)) 34 true rfl (fun hg => (r_sub rfl rfl (gor c6 hg))) (fun hg => (.cons hg (.cons rfl .nil))) ?_
  refine cK h fun c7 h => ?_
  refine gu (decide ((0 : Int) < v6)) 40 (.iaddr 7 37 39) 34 true rfl (fun hg => (ok_iaddr_m (j := (v6 - 1).toNat) rfl rfl (inB_to (gor c7 hg)) (inB_lt (gor c7 hg)))) (fun hg => (.cons hg (.cons hg .nil))) ?_
  refine gd (decide ((0 : Int) < v6)) (.fptr 7 (List.map eItem a7) ((v6 - 1).toNat) 1) 41 (.faddr 1 40) 34 true rfl (fun hg => (.cons hg .nil)) ?_
  refine cK h fun c8 h => ?_
  refine gu (decide ((0 : Int) < v6)) 42 (.load false 1 41) 34 true rfl (fun hg => (ok_load_fm (v := vi ((ix a7 ((v6 - 1).toNat)).From)) rfl (gor c8 hg) rfl)) (fun hg => (.cons hg .nil)) ?_
  refine gd (decide ((0 : Int) < v6)) (vb (decide (((ix a7 v6.toNat).From) < ((ix a7 ((v6 - 1).toNat)).From)))) 43 (.bin .lss false 36 42) 34 true rfl (fun hg => (.cons hg (.cons hg .nil))) ?_
  refine RegD.op (OpD.and (cy (I0 44 (.pick 34 43 (.c (.p (.bool false)))))) rfl rfl (by first | exact hokA1 | exact hokA0 | simp)) ?_
  refine dfi (ob' := [some (.row 7 [.agg [eS 1 vt a0, eS 1 vt a1, eS 4 eRoad a2, eS 3 eGrand a3, vi a4, vi a5, .map 1]]), some (.mp (mpE vi (eM eArr2_Str vi) v7)), some (.row 7 [.agg [vi ((ix a7 v6.toNat).Kind), vi ((ix a7 v6.toNat).From), vi ((ix a7 v6.toNat).To), vt ((ix a7 v6.toNat).Grand), vt ((ix a7 v6.toNat).Place), vt ((ix a7 v6.toNat).Who), vi ((ix a7 v6.toNat).Deposit)]])]) (.d4 (.d4 (.d4 (.d (.k4 (.k3 (.i 44 (vb ((decide ((0 : Int) < v6)) && (decide (((ix a7 v6.toNat).From) < ((ix a7 ((v6 - 1).toNat)).From))))) .n))))))) [0, 1, 2] (.cons rfl (obRen_mp vi_frz (eM_frz eArr2_Str vi) rfl (.cons rfl .nil))) ?_
  refine tc h (fun c9 h => ?_) (fun c9 h => ?_)
  ·refine sk (.i 4 (vi v6) (.i 5 (vi 9) .n)) ?_
   refine q3 ?_
   have h := si h
   subst h
   exact DoneS.ret (S' := ⟨[(4, vi v6), (5, vi 9)], [some (.row 7 [.agg [eS 1 vt a0, eS 1 vt a1, eS 4 eRoad a2, eS 3 eGrand a3, vi a4, vi a5, .map 1]]), some (.mp (mpE vi (eM eArr2_Str vi) v7))]⟩) (sc [0, 1] (by decide) (by kernel_rfl) (.cons rfl (obRen_mp vi_frz (eM_frz eArr2_Str vi) rfl .nil)) rfl rfl) rfl rfl
  refine q2 ?_
  refine sk (.k4 (.k3 (.i 54 (.agg [.fn (.func 144) [.ptr 0 0 0] [], .fn (.func 145) [.ptr 0 0 0] [], .fn (.func 146) [.ptr 0 0 0] [], .fn (.func 147) [.ptr 0 0 0] []]) (.i 55 (vi 0) .n)))) ?_
  refine q4 ?_
  refine TriE.rnd 5 ?_
  refine RndE.seq ?_
  refine sk (.k4 (.k4 (.k (.i 56 (vb true) .n)))) ?_
  refine q1 ?_
  refine TriE.cond (b := true) rfl (fun c10 => ?_) (fun c10 => ?_)
  rotate_left
  ·cases c10
  refine q2 ?_
  refine q7 ?_
  refine sk (.k4 (.k4 (.k (.i 10 (.fn (.func 144) [.ptr 0 0 0] []) .n)))) ?_
  refine q1 ?_
  refine ts .a ?_
  refine TriE.draw (by kernel_rfl) ?_
  refine dk 3 (.i 60 (vi v6) (.i 59 (eS 7 eItem a7) (.i 58 (.fn (.func 144) [.ptr 0 0 0] []) .a))) ?_
  refine cK h fun c11 h => ?_
  refine dp 61 (.slc 7 59 none (some 60) none) (ok_slc_hi (j := v6.toNat) rfl rfl (inC_to c11) (inC_le c11)) ?_
  refine dk 1 (.i 62 (.agg [vi ((ix a7 v6.toNat).Kind), vi ((ix a7 v6.toNat).From), vi ((ix a7 v6.toNat).To), vt ((ix a7 v6.toNat).Grand), vt ((ix a7 v6.toNat).Place), vt ((ix a7 v6.toNat).Who), vi ((ix a7 v6.toNat).Deposit)]) .a) ?_
  refine bK h fun y9 hy9 h => ?_
  refine RegD.op (OpD.dyn (y' := vi y9) (obx := [some (.row 7 [.agg [eS 1 vt a0, eS 1 vt a1, eS 4 eRoad a2, eS 3 eGrand a3, vi a4, vi a5, .map 1]]), some (.mp (mpE vi (eM eArr2_Str vi) v7))]) (oby := [some (.row 7 [.agg [eS 1 vt a0, eS 1 vt a1, eS 4 eRoad a2, eS 3 eGrand a3, vi a4, vi a5, .map 1]]), some (.mp (mpE vi (eM eArr2_Str vi) v7))]) (ob2 := [some (.row 7 [.agg [eS 1 vt a0, eS 1 vt a1, eS 4 eRoad a2, eS 3 eGrand a3, vi a4, vi a5, .map 1]]), some (.mp (mpE vi (eM eArr2_Str vi) v7)), some (.row 7 [.agg [vi ((ix a7 v6.toNat).Kind), vi ((ix a7 v6.toNat).From), vi ((ix a7 v6.toNat).To), vt ((ix a7 v6.toNat).Grand), vt ((ix a7 v6.toNat).Place), vt ((ix a7 v6.toNat).Who), vi ((ix a7 v6.toNat).Deposit)]]), none, none, none, none, none, none]) (tch := []) 0 _ _ _ (cy (I0 63 (.dyn 58 [61, 62]))) rfl (diary_plan_changes_ok n a0 a1 a2 a3 a4 a5 v7 (List.take v6.toNat a7) (ix a7 v6.toNat) y9 hy9) [0, 1] (by kernel_rfl) (.cons rfl (.cons rfl (.cons rfl .nil))) (by kernel_rfl) (by kernel_rfl) (.cons rfl (.same (mp_ren vi_frz (eM_frz eArr2_Str vi) _ _) .nil)) (by kernel_rfl) (.cons rfl (.same (mp_ren vi_frz (eM_frz eArr2_Str vi) _ _) .nil)) (by kernel_rfl) rfl (.inr ⟨rfl, rfl⟩)) ?_
  refine dk 1 (.i 11 (vi y9) .a) ?_
  refine dfi (ob' := [some (.row 7 [.agg [eS 1 vt a0, eS 1 vt a1, eS 4 eRoad a2, eS 3 eGrand a3, vi a4, vi a5, .map 1]]), some (.mp (mpE vi (eM eArr2_Str vi) v7)), some (.row 7 [.agg [vi ((ix a7 v6.toNat).Kind), vi ((ix a7 v6.toNat).From), vi ((ix a7 v6.toNat).To), vt ((ix a7 v6.toNat).Grand), vt ((ix a7 v6.toNat).Place), vt ((ix a7 v6.toNat).Who), vi ((ix a7 v6.toNat).Deposit)]])]) (.d4 (.d3 (.k4 (.k4 (.k (.i 11 (vi y9) .n)))))) [0, 1, 2] (.cons rfl (obRen_mp vi_frz (eM_frz eArr2_Str vi) rfl (.cons rfl .nil))) ?_
  refine sk (.k4 (.k4 (.k2 (.i 65 (vb (y9 != (0 : Int))) .n)))) ?_
  refine tc h (fun c12 h => ?_) (fun c12 h => ?_)
  ·refine sk (.i 4 (vi v6) (.i 5 (vi y9) .n)) ?_
   refine q3 ?_
   have h := si h
   subst h
   exact DoneS.ret (S' := ⟨[(4, vi v6), (5, vi y9)], [some (.row 7 [.agg [eS 1 vt a0, eS 1 vt a1, eS 4 eRoad a2, eS 3 eGrand a3, vi a4, vi a5, .map 1]]), some (.mp (mpE vi (eM eArr2_Str vi) v7))]⟩) (sc [0, 1] (by decide) (by kernel_rfl) (.cons rfl (obRen_mp vi_frz (eM_frz eArr2_Str vi) rfl .nil)) rfl rfl) rfl rfl
  refine q2 ?_
  refine q6 ?_
  refine jo 68 (.bin .add false 55 (ki 1)) (r_addn (i := 0) (j := 1) rfl rfl rfl) ?_
  refine jk 1 (.d (.k4 (.k4 (.i 55 (vi 1) .n)))) ?_
  refine RndE.seq ?_
  refine sk (.k4 (.k4 (.k (.i 56 (vb true) .n)))) ?_
  refine q1 ?_
  refine TriE.cond (b := true) rfl (fun c13 => ?_) (fun c13 => ?_)
  rotate_left
  ·cases c13
  refine q2 ?_
  refine q7 ?_
  refine sk (.k4 (.k4 (.k (.i 10 (.fn (.func 145) [.ptr 0 0 0] []) .n)))) ?_
  refine q1 ?_
  refine ts .a ?_
  refine TriE.draw (by kernel_rfl) ?_
  refine dk 3 (.i 60 (vi v6) (.i 59 (eS 7 eItem a7) (.i 58 (.fn (.func 145) [.ptr 0 0 0] []) .a))) ?_
  refine dp 61 (.slc 7 59 none (some 60) none) (ok_slc_hi (j := v6.toNat) rfl rfl (inC_to c11) (inC_le c11)) ?_
  refine dk 1 (.i 62 (.agg [vi ((ix a7 v6.toNat).Kind), vi ((ix a7 v6.toNat).From), vi ((ix a7 v6.toNat).To), vt ((ix a7 v6.toNat).Grand), vt ((ix a7 v6.toNat).Place), vt ((ix a7 v6.toNat).Who), vi ((ix a7 v6.toNat).Deposit)]) .a) ?_
  refine bK h fun y10 hy10 h => ?_
  refine RegD.op (OpD.dyn (y' := vi y10.1) (obx := [some (.row 7 [.agg [eS 1 vt a0, eS 1 vt a1, eS 4 eRoad a2, eS 3 eGrand a3, vi a4, vi a5, .map 1]]), some (.mp (mpE vi (eM eArr2_Str vi) v7))]) (oby := [some (.row 7 [.agg [eS 1 vt a0, eS 1 vt a1, eS 4 eRoad a2, eS 3 eGrand a3, vi a4, vi a5, .map 1]]), some (.mp (mpE vi (eM eArr2_Str vi) y10.2))]) (ob2 := [some (.row 7 [.agg [eS 1 vt a0, eS 1 vt a1, eS 4 eRoad a2, eS 3 eGrand a3, vi a4, vi a5, .map 1]]), some (.mp (mpE vi (eM eArr2_Str vi) y10.2)), some (.row 7 [.agg [vi ((ix a7 v6.toNat).Kind), vi ((ix a7 v6.toNat).From), vi ((ix a7 v6.toNat).To), vt ((ix a7 v6.toNat).Grand), vt ((ix a7 v6.toNat).Place), vt ((ix a7 v6.toNat).Who), vi ((ix a7 v6.toNat).Deposit)]]), none, none, none, none, none, none]) (tch := [0, 1]) 0 _ _ _ (cy (I0 63 (.dyn 58 [61, 62]))) rfl (diary_plan_stands_ok n a0 a1 a2 a3 a4 a5 v7 (List.take v6.toNat a7) (ix a7 v6.toNat) y10 hy10) [0, 1] (by kernel_rfl) (.cons rfl (.cons rfl (.cons rfl .nil))) (by kernel_rfl) (by kernel_rfl) (.cons rfl (.same (mp_ren vi_frz (eM_frz eArr2_Str vi) _ _) .nil)) (by kernel_rfl) (.cons rfl (.same (mp_ren vi_frz (eM_frz eArr2_Str vi) _ _) .nil)) (by kernel_rfl) rfl (.inl rfl)) ?_
  refine dk 1 (.i 11 (vi y10.1) .a) ?_
  refine dfi (ob' := [some (.row 7 [.agg [eS 1 vt a0, eS 1 vt a1, eS 4 eRoad a2, eS 3 eGrand a3, vi a4, vi a5, .map 1]]), some (.mp (mpE vi (eM eArr2_Str vi) y10.2)), some (.row 7 [.agg [vi ((ix a7 v6.toNat).Kind), vi ((ix a7 v6.toNat).From), vi ((ix a7 v6.toNat).To), vt ((ix a7 v6.toNat).Grand), vt ((ix a7 v6.toNat).Place), vt ((ix a7 v6.toNat).Who), vi ((ix a7 v6.toNat).Deposit)]])]) (.d4 (.d3 (.k4 (.k4 (.k (.i 11 (vi y10.1) .n)))))) [0, 1, 2] (.cons rfl (obRen_mp vi_frz (eM_frz eArr2_Str vi) rfl (.cons rfl .nil))) ?_
  refine sk (.k4 (.k4 (.k2 (.i 65 (vb (y10.1 != (0 : Int))) .n)))) ?_
  refine tc h (fun c14 h => ?_) (fun c14 h => ?_)
  ·refine sk (.i 4 (vi v6) (.i 5 (vi y10.1) .n)) ?_
   refine q3 ?_
   have h := si h
   subst h
   exact DoneS.ret (S' := ⟨[(4, vi v6), (5, vi y10.1)], [some (.row 7 [.agg [eS 1 vt a0, eS 1 vt a1, eS 4 eRoad a2, eS 3 eGrand a3, vi a4, vi a5, .map 1]]), some (.mp (mpE vi (eM eArr2_Str vi) y10.2))]⟩) (sc [0, 1] (by decide) (by kernel_rfl) (.cons rfl (obRen_mp vi_frz (eM_frz eArr2_Str vi) rfl .nil)) rfl rfl) rfl rfl
  refine q2 ?_
  refine q6 ?_
  refine jo 68 (.bin .add false 55 (ki 1)) (r_addn (i := 1) (j := 1) rfl rfl rfl) ?_
  refine jk 1 (.d (.k4 (.k4 (.i 55 (vi 2) .n)))) ?_
  refine RndE.seq ?_
  refine sk (.k4 (.k4 (.k (.i 56 (vb true) .n)))) ?_
  refine q1 ?_
  refine TriE.cond (b := true) rfl (fun c15 => ?_) (fun c15 => ?_)
  rotate_left
  ·cases c15
  refine q2 ?_
  refine q7 ?_
  refine sk (.k4 (.k4 (.k (.i 10 (.fn (.func 146) [.ptr 0 0 0] []) .n)))) ?_
  refine q1 ?_
  refine ts .a ?_
  refine TriE.draw (by kernel_rfl) ?_
  refine dk 3 (.i 60 (vi v6) (.i 59 (eS 7 eItem a7) (.i 58 (.fn (.func 146) [.ptr 0 0 0] []) .a))) ?_
  refine dp 61 (.slc 7 59 none (some 60) none) (ok_slc_hi (j := v6.toNat) rfl rfl (inC_to c11) (inC_le c11)) ?_
  refine dk 1 (.i 62 (.agg [vi ((ix a7 v6.toNat).Kind), vi ((ix a7 v6.toNat).From), vi ((ix a7 v6.toNat).To), vt ((ix a7 v6.toNat).Grand), vt ((ix a7 v6.toNat).Place), vt ((ix a7 v6.toNat).Who), vi ((ix a7 v6.toNat).Deposit)]) .a) ?_
  refine bK h fun y11 hy11 h => ?_
  refine RegD.op (OpD.dyn (y' := vi y11.1) (obx := [some (.row 7 [.agg [eS 1 vt a0, eS 1 vt a1, eS 4 eRoad a2, eS 3 eGrand a3, vi a4, vi a5, .map 1]]), some (.mp (mpE vi (eM eArr2_Str vi) y10.2))]) (oby := [some (.row 7 [.agg [eS 1 vt a0, eS 1 vt a1, eS 4 eRoad a2, eS 3 eGrand a3, vi a4, vi a5, .map 1]]), some (.mp (mpE vi (eM eArr2_Str vi) y11.2))]) (ob2 := [some (.row 7 [.agg [eS 1 vt a0, eS 1 vt a1, eS 4 eRoad a2, eS 3 eGrand a3, vi a4, vi a5, .map 1]]), some (.mp (mpE vi (eM eArr2_Str vi) y11.2)), some (.row 7 [.agg [vi ((ix a7 v6.toNat).Kind), vi ((ix a7 v6.toNat).From), vi ((ix a7 v6.toNat).To), vt ((ix a7 v6.toNat).Grand), vt ((ix a7 v6.toNat).Place), vt ((ix a7 v6.toNat).Who), vi ((ix a7 v6.toNat).Deposit)]]), none, none, none, none, none, none]) (tch := [0, 1]) 0 _ _ _ (cy (I0 63 (.dyn 58 [61, 62]))) rfl (diary_plan_travels_ok n a0 a1 a2 a3 a4 a5 y10.2 (List.take v6.toNat a7) (ix a7 v6.toNat) y11 hy11) [0, 1] (by kernel_rfl) (.cons rfl (.cons rfl (.cons rfl .nil))) (by kernel_rfl) (by kernel_rfl) (.cons rfl (.same (mp_ren vi_frz (eM_frz eArr2_Str vi) _ _) .nil)) (by kernel_rfl) (.cons rfl (.same (mp_ren vi_frz (eM_frz eArr2_Str vi) _ _) .nil)) (by kernel_rfl) rfl (.inl rfl)) ?_
  refine dk 1 (.i 11 (vi y11.1) .a) ?_
  refine dfi (ob' := [some (.row 7 [.agg [eS 1 vt a0, eS 1 vt a1, eS 4 eRoad a2, eS 3 eGrand a3, vi a4, vi a5, .map 1]]), some (.mp (mpE vi (eM eArr2_Str vi) y11.2)), some (.row 7 [.agg [vi ((ix a7 v6.toNat).Kind), vi ((ix a7 v6.toNat).From), vi ((ix a7 v6.toNat).To), vt ((ix a7 v6.toNat).Grand), vt ((ix a7 v6.toNat).Place), vt ((ix a7 v6.toNat).Who), vi ((ix a7 v6.toNat).Deposit)]])]) (.d4 (.d3 (.k4 (.k4 (.k (.i 11 (vi y11.1) .n)))))) [0, 1, 2] (.cons rfl (obRen_mp vi_frz (eM_frz eArr2_Str vi) rfl (.cons rfl .nil))) ?_
  refine sk (.k4 (.k4 (.k2 (.i 65 (vb (y11.1 != (0 : Int))) .n)))) ?_
  refine tc h (fun c16 h => ?_) (fun c16 h => ?_)
  ·refine sk (.i 4 (vi v6) (.i 5 (vi y11.1) .n)) ?_
   refine q3 ?_
   have h := si h
   subst h
   exact DoneS.ret (S' := ⟨[(4, vi v6), (5, vi y11.1)], [some (.row 7 [.agg [eS 1 vt a0, eS 1 vt a1, eS 4 eRoad a2, eS 3 eGrand a3, vi a4, vi a5, .map 1]]), some (.mp (mpE vi (eM eArr2_Str vi) y11.2))]⟩) (sc [0, 1] (by decide) (by kernel_rfl) (.cons rfl (obRen_mp vi_frz (eM_frz eArr2_Str vi) rfl .nil)) rfl rfl) rfl rfl
  refine q2 ?_
  refine q6 ?_
  refine jo 68 (.bin .add false 55 (ki 1)) (r_addn (i := 2) (j := 1) rfl rfl rfl) ?_
  refine jk 1 (.d (.k4 (.k4 (.i 55 (vi 3) .n)))) ?_
  refine RndE.seq ?_
  refine sk (.k4 (.k4 (.k (.i 56 (vb true) .n)))) ?_
  refine q1 ?_
  refine TriE.cond (b := true) rfl (fun c17 => ?_) (fun c17 => ?_)
  rotate_left
  ·cases c17
  refine q2 ?_
  refine q7 ?_
  refine sk (.k4 (.k4 (.k (.i 10 (.fn (.func 147) [.ptr 0 0 0] []) .n)))) ?_
  refine q1 ?_
  refine ts .a ?_
  refine TriE.draw (by kernel_rfl) ?_
  refine dk 3 (.i 60 (vi v6) (.i 59 (eS 7 eItem a7) (.i 58 (.fn (.func 147) [.ptr 0 0 0] []) .a))) ?_
  refine dp 61 (.slc 7 59 none (some 60) none) (ok_slc_hi (j := v6.toNat) rfl rfl (inC_to c11) (inC_le c11)) ?_
  refine dk 1 (.i 62 (.agg [vi ((ix a7 v6.toNat).Kind), vi ((ix a7 v6.toNat).From), vi ((ix a7 v6.toNat).To), vt ((ix a7 v6.toNat).Grand), vt ((ix a7 v6.toNat).Place), vt ((ix a7 v6.toNat).Who), vi ((ix a7 v6.toNat).Deposit)]) .a) ?_
  refine bK h fun y12 hy12 h => ?_
  refine RegD.op (OpD.dyn (y' := vi y12) (obx := [some (.row 7 [.agg [eS 1 vt a0, eS 1 vt a1, eS 4 eRoad a2, eS 3 eGrand a3, vi a4, vi a5, .map 1]]), some (.mp (mpE vi (eM eArr2_Str vi) y11.2))]) (oby := [some (.row 7 [.agg [eS 1 vt a0, eS 1 vt a1, eS 4 eRoad a2, eS 3 eGrand a3, vi a4, vi a5, .map 1]]), some (.mp (mpE vi (eM eArr2_Str vi) y11.2))]) (ob2 := [some (.row 7 [.agg [eS 1 vt a0, eS 1 vt a1, eS 4 eRoad a2, eS 3 eGrand a3, vi a4, vi a5, .map 1]]), some (.mp (mpE vi (eM eArr2_Str vi) y11.2)), some (.row 7 [.agg [vi ((ix a7 v6.toNat).Kind), vi ((ix a7 v6.toNat).From), vi ((ix a7 v6.toNat).To), vt ((ix a7 v6.toNat).Grand), vt ((ix a7 v6.toNat).Place), vt ((ix a7 v6.toNat).Who), vi ((ix a7 v6.toNat).Deposit)]]), none, none, none, none, none, none]) (tch := []) 0 _ _ _ (cy (I0 63 (.dyn 58 [61, 62]))) rfl (diary_plan_isTuned_ok n a0 a1 a2 a3 a4 a5 y11.2 (List.take v6.toNat a7) (ix a7 v6.toNat) y12 hy12) [0, 1] (by kernel_rfl) (.cons rfl (.cons rfl (.cons rfl .nil))) (by kernel_rfl) (by kernel_rfl) (.cons rfl (.same (mp_ren vi_frz (eM_frz eArr2_Str vi) _ _) .nil)) (by kernel_rfl) (.cons rfl (.same (mp_ren vi_frz (eM_frz eArr2_Str vi) _ _) .nil)) (by kernel_rfl) rfl (.inr ⟨rfl, rfl⟩)) ?_
  refine dk 1 (.i 11 (vi y12) .a) ?_
  refine dfi (ob' := [some (.row 7 [.agg [eS 1 vt a0, eS 1 vt a1, eS 4 eRoad a2, eS 3 eGrand a3, vi a4, vi a5, .map 1]]), some (.mp (mpE vi (eM eArr2_Str vi) y11.2)), some (.row 7 [.agg [vi ((ix a7 v6.toNat).Kind), vi ((ix a7 v6.toNat).From), vi ((ix a7 v6.toNat).To), vt ((ix a7 v6.toNat).Grand), vt ((ix a7 v6.toNat).Place), vt ((ix a7 v6.toNat).Who), vi ((ix a7 v6.toNat).Deposit)]])]) (.d4 (.d3 (.k4 (.k4 (.k (.i 11 (vi y12) .n)))))) [0, 1, 2] (.cons rfl (obRen_mp vi_frz (eM_frz eArr2_Str vi) rfl (.cons rfl .nil))) ?_
  refine sk (.k4 (.k4 (.k2 (.i 65 (vb (y12 != (0 : Int))) .n)))) ?_
  refine tc h (fun c18 h => ?_) (fun c18 h => ?_)
  ·refine sk (.i 4 (vi v6) (.i 5 (vi y12) .n)) ?_
   refine q3 ?_
   have h := si h
   subst h
   exact DoneS.ret (S' := ⟨[(4, vi v6), (5, vi y12)], [some (.row 7 [.agg [eS 1 vt a0, eS 1 vt a1, eS 4 eRoad a2, eS 3 eGrand a3, vi a4, vi a5, .map 1]]), some (.mp (mpE vi (eM eArr2_Str vi) y11.2))]⟩) (sc [0, 1] (by decide) (by kernel_rfl) (.cons rfl (obRen_mp vi_frz (eM_frz eArr2_Str vi) rfl .nil)) rfl rfl) rfl rfl
  refine q2 ?_
  refine q6 ?_
  refine jo 68 (.bin .add false 55 (ki 1)) (r_addn (i := 3) (j := 1) rfl rfl rfl) ?_
  refine jk 1 (.d (.k4 (.k4 (.i 55 (vi 4) .n)))) ?_
  refine RndE.seq ?_
  refine sk (.k4 (.k4 (.k (.i 56 (vb false) .n)))) ?_
  refine q1 ?_
  refine TriE.cond (b := false) rfl (fun c19 => ?_) (fun c19 => ?_)
  ·cases c19
  refine q5 ?_
  refine q6 ?_
  refine cK h fun c20 h => ?_
  refine jo 69 (.bin .add false 17 (ki 1)) (r_add rfl rfl c20) ?_
  refine jk 1 (.d (.k4 (.i 17 (vi (v6 + 1)) .n))) ?_
  exact Vs.intro (sc [0, 1] (by decide) (by kernel_rfl) (.cons rfl (obRen_mp vi_frz (eM_frz eArr2_Str vi) rfl .nil)) rfl rfl) ⟨(v6 + 1, y11.2), rfl, h⟩
 refine q5 ?_
 exact Vs.intro sy ⟨v7, rfl, h⟩
theorem diary_Accept_ok (n : Nat) (a0 : Diary) (a1 : List Item) (r : Int × Int) (h : diary_Accept n a0 a1 = some r) : FnL Tryz.prog 48 [.agg [eS 1 vt a0.Places, eS 1 vt a0.Technicians, eS 4 eRoad a0.Roads, eS 3 eGrand a0.Grands, vi a0.Change, vi a0.Lasts], eS 7 eItem a1] [] (.tup [vi r.2, vi r.1]) [] := by
 dsimp only [diary_Accept] at h
 refine fo [4, 5] Tryz.call48 Tryz.func48 rfl ?_
 refine sko (.d (.k (.i 2 (.ptr 0 0 0) .n))) [some (.row 6 [.agg [eS 1 vt a0.Places, eS 1 vt a0.Technicians, eS 4 eRoad a0.Roads, eS 3 eGrand a0.Grands, vi a0.Change, vi a0.Lasts]])] ?_
 refine TriE.seqK2 h (fun (v4 : Int) => St.mk [(1, eS 7 eItem a1), (6, .p (.pointer none)), (7, vi v4)] []) (fun (_ : Unit) => St.mk [(1, eS 7 eItem a1), (6, .ptr 1 0 0), (7, vi 0)] [some (.mp (mpE vi (eM eArr2_Str vi) ([] : List (Int × List (Arr2_Str × Int))))), some (.row 7 [.agg [eS 1 vt a0.Places, eS 1 vt a0.Technicians, eS 4 eRoad a0.Roads, eS 3 eGrand a0.Grands, vi a0.Change, vi a0.Lasts, .map 0]])]) ?_ ?_ ?_
 ·rintro v4 h
  refine q1 ?_
  refine sk (.k3 (.i 14 (vb (v4 != (0 : Int))) .n)) ?_
  refine tc h (fun c1 h => ?_) (fun c1 h => ?_)
  ·refine sk (.i 4 (vi 0) (.i 5 (vi v4) .n)) ?_
   refine q3 ?_
   have h := si h
   subst h
   exact DoneS.ret Sees.refl rfl rfl
  refine q2 ?_
  refine sj ?_
  refine rk 2 (.i 16 (.p (.pointer none)) (.i 17 (eS 7 eItem a1) .n)) ?_
  refine bK h fun y5 hy5 h => ?_
  refine jc 18 [16, 17] (diary_plan_accept_ok n a1 y5 hy5) ?_
  refine jk 4 (.i 4 (vi y5.1) (.i 5 (vi y5.2) .n)) ?_
  refine q3 ?_
  have h := si h
  subst h
  exact DoneS.ret Sees.refl rfl rfl
 ·rintro ⟨⟩ h
  refine q1 ?_
  refine sk (.k3 (.i 14 (vb false) .n)) ?_
  refine TriE.cond (b := false) rfl (fun c2 => ?_) (fun c2 => ?_)
  ·cases c2
  refine q2 ?_
  refine sj ?_
  refine rk 2 (.i 16 (.ptr 1 0 0) (.i 17 (eS 7 eItem a1) .n)) ?_
  refine bK h fun y6 hy6 h => ?_
  refine jco (.tup [vi y6.1, vi y6.2.1]) 18 [16, 17] (diary_plan_accept_2_ok n a0.Places a0.Technicians a0.Roads a0.Grands a0.Change a0.Lasts ([] : List (Int × List (Arr2_Str × Int))) a1 y6 hy6) [1, 0] rfl (.cons rfl (.same (mp_ren vi_frz (eM_frz eArr2_Str vi) _ _) .nil)) (.cons rfl (.same (mp_ren vi_frz (eM_frz eArr2_Str vi) _ _) .nil)) rfl ?_
  refine jk 4 (.i 4 (vi y6.1) (.i 5 (vi y6.2.1) .n)) ?_
  refine q3 ?_
  have h := si h
  subst h
  exact DoneS.ret (S' := ⟨[(4, vi y6.1), (5, vi y6.2.1)], []⟩) (sc [] (by decide) (by kernel_rfl) ObRen.nil rfl rfl) rfl rfl
 intro k1 k2 h
 refine q6 ?_
 refine rk 1 (.k (.i 9 (.agg [eS 1 vt a0.Places, eS 1 vt a0.Technicians, eS 4 eRoad a0.Roads, eS 3 eGrand a0.Grands, vi a0.Change, vi a0.Lasts]) .n)) ?_
 refine bK h fun y1 hy1 h => ?_
 rcases y1 with y1 | y1
 ·dsimp only at h
  refine jc 10 [9] (diary_open_ok n a0 (Sum.inl y1) hy1) ?_
  refine jk 5 (.d (.k (.i 6 (.p (.pointer none)) (.i 7 (vi y1) .n)))) ?_
  exact Vs.intro (sc [] (by decide) (by kernel_rfl) ObRen.nil rfl rfl) (.inl ⟨y1, rfl, h⟩)
 dsimp only at h
 refine jco (.tup [.ptr 2 0 0, vi 0]) 10 [9] (diary_open_ok n a0 (Sum.inr y1) hy1) [] rfl ObsRen.nil (.same (mp_ren vi_frz (eM_frz eArr2_Str vi) _ _) (.cons rfl .nil)) rfl ?_
 refine jk 5 (.d (.k (.i 6 (.ptr 2 0 0) (.i 7 (vi 0) .n)))) ?_
 exact Vs.intro (sc [1, 2] (by decide) (by kernel_rfl) (obRen_mp vi_frz (eM_frz eArr2_Str vi) rfl (.cons rfl .nil)) rfl rfl) (.inr ⟨(), rfl, h⟩)
theorem diary_read_ok (n : Nat) (a0 : Diary) (a1 : List Item) (r : Int ⊕ (Int × (List (Int × List (Arr2_Str × Int))))) (h : diary_read n a0 a1 = some r) : FnL Tryz.prog 100 [.agg [eS 1 vt a0.Places, eS 1 vt a0.Technicians, eS 4 eRoad a0.Roads, eS 3 eGrand a0.Grands, vi a0.Change, vi a0.Lasts], eS 7 eItem a1] [] (match r with | .inl r => .tup [.p (.pointer none), vi r] | .inr r => .tup [.ptr 1 0 0, vi r.1]) (match r with | .inl r => [] | .inr r => [some (.mp (mpE vi (eM eArr2_Str vi) r.2)), some (.row 7 [.agg [eS 1 vt a0.Places, eS 1 vt a0.Technicians, eS 4 eRoad a0.Roads, eS 3 eGrand a0.Grands, vi a0.Change, vi a0.Lasts, .map 0]])]) := by
 dsimp only [diary_read] at h
 refine FnL.ofS (ts := [4, 5]) Tryz.call100 Tryz.func100 rfl rfl (Nat.le_of_ble_eq_true rfl) (by rcases r with r | r <;> exact Nat.le_of_ble_eq_true rfl) (fun j h => absurd h (Nat.not_lt_zero j)) ?_
 refine sko (.d (.k (.i 2 (.ptr 0 0 0) .n))) [some (.row 6 [.agg [eS 1 vt a0.Places, eS 1 vt a0.Technicians, eS 4 eRoad a0.Roads, eS 3 eGrand a0.Grands, vi a0.Change, vi a0.Lasts]])] ?_
 refine TriE.seqK2 h (fun (v4 : Int) => St.mk [(1, eS 7 eItem a1), (6, .p (.pointer none)), (7, vi v4)] []) (fun (_ : Unit) => St.mk [(1, eS 7 eItem a1), (6, .ptr 1 0 0), (7, vi 0)] [some (.mp (mpE vi (eM eArr2_Str vi) ([] : List (Int × List (Arr2_Str × Int))))), some (.row 7 [.agg [eS 1 vt a0.Places, eS 1 vt a0.Technicians, eS 4 eRoad a0.Roads, eS 3 eGrand a0.Grands, vi a0.Change, vi a0.Lasts, .map 0]])]) ?_ ?_ ?_
 ·rintro v4 h
  refine q1 ?_
  refine sk (.k3 (.i 14 (vb (v4 != (0 : Int))) .n)) ?_
  refine tc h (fun c1 h => ?_) (fun c1 h => ?_)
  ·refine sk (.i 4 (.p (.pointer none)) (.i 5 (vi v4) .n)) ?_
   refine q3 ?_
   have h := si h
   subst h
   exact DoneS.ret Sees.refl rfl rfl
  refine q2 ?_
  refine sj ?_
  refine rk 2 (.d (.k (.i 17 (.p (.pointer none)) (.i 18 (eS 7 eItem a1) .n)))) ?_
  refine bK h fun y5 hy5 h => ?_
  refine jc 19 [17, 18] (diary_plan_accept_ok n a1 y5 hy5) ?_
  refine jk 4 (.d (.k (.i 7 (vi y5.2) .n))) ?_
  refine sk (.i 4 (.p (.pointer none)) (.i 5 (vi y5.2) .n)) ?_
  refine q3 ?_
  have h := si h
  subst h
  exact DoneS.ret Sees.refl rfl rfl
 ·rintro ⟨⟩ h
  refine q1 ?_
  refine sk (.k3 (.i 14 (vb false) .n)) ?_
  refine TriE.cond (b := false) rfl (fun c2 => ?_) (fun c2 => ?_)
  ·cases c2
  refine q2 ?_
  refine sj ?_
  refine rk 2 (.d (.k (.i 17 (.ptr 1 0 0) (.i 18 (eS 7 eItem a1) .n)))) ?_
  refine bK h fun y6 hy6 h => ?_
  refine jco (.tup [vi y6.1, vi y6.2.1]) 19 [17, 18] (diary_plan_accept_2_ok n a0.Places a0.Technicians a0.Roads a0.Grands a0.Change a0.Lasts ([] : List (Int × List (Arr2_Str × Int))) a1 y6 hy6) [1, 0] rfl (.cons rfl (.same (mp_ren vi_frz (eM_frz eArr2_Str vi) _ _) .nil)) (.cons rfl (.same (mp_ren vi_frz (eM_frz eArr2_Str vi) _ _) .nil)) rfl ?_
  refine jk 4 (.d (.k (.i 7 (vi y6.2.1) .n))) ?_
  refine sk (.i 4 (.ptr 1 0 0) (.i 5 (vi y6.2.1) .n)) ?_
  refine q3 ?_
  have h := si h
  subst h
  exact DoneS.ret Sees.refl rfl rfl
 intro k1 k2 h
 refine q6 ?_
 refine rk 1 (.k (.i 9 (.agg [eS 1 vt a0.Places, eS 1 vt a0.Technicians, eS 4 eRoad a0.Roads, eS 3 eGrand a0.Grands, vi a0.Change, vi a0.Lasts]) .n)) ?_
 refine bK h fun y1 hy1 h => ?_
 rcases y1 with y1 | y1
 ·dsimp only at h
  refine jc 10 [9] (diary_open_ok n a0 (Sum.inl y1) hy1) ?_
  refine jk 5 (.d (.k (.i 6 (.p (.pointer none)) (.i 7 (vi y1) .n)))) ?_
  exact Vs.intro (sc [] (by decide) (by kernel_rfl) ObRen.nil rfl rfl) (.inl ⟨y1, rfl, h⟩)
 dsimp only at h
 refine jco (.tup [.ptr 2 0 0, vi 0]) 10 [9] (diary_open_ok n a0 (Sum.inr y1) hy1) [] rfl ObsRen.nil (.same (mp_ren vi_frz (eM_frz eArr2_Str vi) _ _) (.cons rfl .nil)) rfl ?_
 refine jk 5 (.d (.k (.i 6 (.ptr 2 0 0) (.i 7 (vi 0) .n)))) ?_
 exact Vs.intro (sc [1, 2] (by decide) (by kernel_rfl) (obRen_mp vi_frz (eM_frz eArr2_Str vi) rfl (.cons rfl .nil)) rfl rfl) (.inr ⟨(), rfl, h⟩)
theorem slices_Sort_int_ok (n : Nat) (a0 : List Int) (r : List Int) (h : slices_Sort_int n a0 = some r) : FnL Tryz.prog 102 [.own 0 0 a0.length] [some (.row 1 (List.map vi a0))] (.tup []) [some (.row 1 (List.map vi r))] := by
 refine cK h fun c h => ?_
 cases h
 exact sortI_call c
end Go.Proofs.YtchkkpbkgghcoaaGreatDoor.As
