/- The code computes what the plain functions say, part 1: no condition. -/
import Derived.Test.YtchkkpbkgghcoaaGreatDoorPlain1
import Derived.Test.YtchkkpbkgghcoaaGreatDoorProg
import Derived.ChangeVars
import Derived.Ground.NamesProg
import Derived.Handed
import Derived.KernelRfl
import Derived.Lay
import Derived.Lib.LaidU8
import Derived.Shelf.Lays
import Derived.Shelf.LaysM
import Derived.Shelf.Strconv.AtoiAll
import Derived.Shelf.Strconv.Itoa3
import Derived.Shelf.Strings.OnBuilder
import Derived.Shelf.Strings.Split
import Derived.Shelf.Vars
import Derived.SizedLaws
import Derived.Sort.EncStr
import Derived.Sort.Grow
namespace Go.Proofs.YtchkkpbkgghcoaaGreatDoor.As
open Go Go.Proofs
set_option maxRecDepth 4000
section
open Go Go.Proofs Go.Shelf
def txItoaR : Go.Shelf.Ren := ⟨fun | 171 => 38 | 243 => 90 | 246 => 134 | 283 => 178 | 284 => 179 | 285 => 180 | 286 => 181 | 129 => 212 | 317 => 231 | 318 => 232 | 319 => 233 | 320 => 234 | 337 => 258 | 338 => 259 | n => n, fun | 3 => 3 | 9 => 9 | 2 => 2 | 4 => 4 | 171 => 242 | 0 => 0 | 53 => 243 | 37 => 114 | 5 => 5 | 173 => 246 | 212 => 287 | 51 => 272 | 20 => 20 | 213 => 288 | 46 => 146 | 232 => 328 | 233 => 329 | n => n, fun | 17 => 2 | 18 => 7 | 19 => 8 | n => n⟩
theorem txItoa : Go.Proofs.LaysM.n171 Tryz.prog txItoaR := {
  mixed := by kernel_rfl
  f129 := Tryz.func212.trans (congrArg some (by kernel_rfl))
  f171 := Tryz.func38.trans (congrArg some (by kernel_rfl))
  f243 := Tryz.func90.trans (congrArg some (by kernel_rfl))
  f246 := Tryz.func134.trans (congrArg some (by kernel_rfl))
  f283 := Tryz.func178.trans (congrArg some (by kernel_rfl))
  f284 := Tryz.func179.trans (congrArg some (by kernel_rfl))
  f285 := Tryz.func180.trans (congrArg some (by kernel_rfl))
  f286 := Tryz.func181.trans (congrArg some (by kernel_rfl))
  f317 := Tryz.func231.trans (congrArg some (by kernel_rfl))
  f318 := Tryz.func232.trans (congrArg some (by kernel_rfl))
  f319 := Tryz.func233.trans (congrArg some (by kernel_rfl))
  f320 := Tryz.func234.trans (congrArg some (by kernel_rfl))
  f337 := Tryz.func258.trans (congrArg some (by kernel_rfl))
  f338 := Tryz.func259.trans (congrArg some (by kernel_rfl))
  t0 := Tryz.underlying0
  a0 := Tryz.isAgg0
  z0 := Tryz.sizeOf0
  v0 := Tryz.zeroValue0
  t2 := Tryz.underlying2
  a2 := Tryz.isAgg2
  z2 := Tryz.sizeOf2
  v2 := Tryz.zeroValue2
  t3 := Tryz.underlying3
  a3 := Tryz.isAgg3
  z3 := Tryz.sizeOf3
  v3 := Tryz.zeroValue3
  t4 := Tryz.underlying4
  a4 := Tryz.isAgg4
  z4 := Tryz.sizeOf4
  v4 := Tryz.zeroValue4
  t5 := Tryz.underlying5
  a5 := Tryz.isAgg5
  z5 := Tryz.sizeOf5
  v5 := Tryz.zeroValue5
  t9 := Tryz.underlying9
  a9 := Tryz.isAgg9
  z9 := Tryz.sizeOf9
  v9 := Tryz.zeroValue9
  t20 := Tryz.underlying20
  a20 := Tryz.isAgg20
  z20 := Tryz.sizeOf20
  v20 := Tryz.zeroValue20
  t37 := Tryz.underlying114
  a37 := Tryz.isAgg114
  z37 := Tryz.sizeOf114
  v37 := Tryz.zeroValue114
  t46 := Tryz.underlying146
  a46 := Tryz.isAgg146
  z46 := Tryz.sizeOf146
  v46 := Tryz.zeroValue146
  t51 := Tryz.underlying272
  a51 := Tryz.isAgg272
  z51 := Tryz.sizeOf272
  v51 := Tryz.zeroValue272
  t53 := Tryz.underlying243
  a53 := Tryz.isAgg243
  z53 := Tryz.sizeOf243
  v53 := Tryz.zeroValue243
  t171 := Tryz.underlying242
  a171 := Tryz.isAgg242
  z171 := Tryz.sizeOf242
  v171 := Tryz.zeroValue242
  t173 := Tryz.underlying246
  a173 := Tryz.isAgg246
  z173 := Tryz.sizeOf246
  v173 := Tryz.zeroValue246
  t212 := Tryz.underlying287
  a212 := Tryz.isAgg287
  z212 := Tryz.sizeOf287
  v212 := Tryz.zeroValue287
  t213 := Tryz.underlying288
  a213 := Tryz.isAgg288
  z213 := Tryz.sizeOf288
  t232 := Tryz.underlying328
  a232 := Tryz.isAgg328
  z232 := Tryz.sizeOf328
  v232 := Tryz.zeroValue328
  t233 := Tryz.underlying329
  a233 := Tryz.isAgg329
  z233 := Tryz.sizeOf329
  v233 := Tryz.zeroValue329
  g17 := by kernel_rfl
  g18 := by kernel_rfl
  g19 := by kernel_rfl
  i0 := by kernel_rfl
  i2 := by kernel_rfl
  i3 := by kernel_rfl
  i4 := by kernel_rfl
  i5 := by kernel_rfl
  i9 := by kernel_rfl
  i20 := by kernel_rfl
  i37 := by kernel_rfl
  i46 := by kernel_rfl
  i51 := by kernel_rfl
  i53 := by kernel_rfl
  i171 := by kernel_rfl
  i173 := by kernel_rfl
  i212 := by kernel_rfl
  i232 := by kernel_rfl
  i233 := by kernel_rfl
  m17 := by kernel_rfl
  m18 := by kernel_rfl
  m19 := by kernel_rfl }
def txAtoiR : Go.Shelf.Ren := ⟨fun | 172 => 92 | 244 => 138 | 245 => 139 | 247 => 186 | 279 => 187 | 280 => 188 | 281 => 189 | 282 => 190 | 287 => 239 | 316 => 240 | 171 => 38 | 205 => 241 | 321 => 261 | 322 => 262 | 243 => 90 | 246 => 134 | 283 => 178 | 284 => 179 | 285 => 180 | 286 => 181 | 129 => 212 | 317 => 231 | 318 => 232 | 319 => 233 | 320 => 234 | 337 => 258 | 338 => 259 | n => n, fun | 9 => 9 | 3 => 3 | 75 => 118 | 76 => 119 | 4 => 4 | 5 => 5 | 167 => 250 | 37 => 114 | 0 => 0 | 85 => 251 | 2 => 2 | 168 => 253 | 53 => 243 | 175 => 289 | 46 => 146 | 210 => 293 | 127 => 187 | 145 => 321 | 143 => 319 | 21 => 21 | 171 => 242 | 173 => 246 | 212 => 287 | 51 => 272 | 20 => 20 | 213 => 288 | 232 => 328 | 233 => 329 | 80 => 123 | n => n, fun | 15 => 3 | 16 => 4 | 17 => 2 | 18 => 7 | 19 => 8 | n => n⟩
theorem txAtoi : Go.Proofs.LaysC.n172 Tryz.prog txAtoiR := {
  mixed := by kernel_rfl
  f129 := Tryz.func212.trans (congrArg some (by kernel_rfl))
  f171 := Tryz.func38.trans (congrArg some (by kernel_rfl))
  f172 := Tryz.func92.trans (congrArg some (by kernel_rfl))
  f205 := Tryz.func241.trans (congrArg some (by kernel_rfl))
  f243 := Tryz.func90.trans (congrArg some (by kernel_rfl))
  f244 := Tryz.func138.trans (congrArg some (by kernel_rfl))
  f245 := Tryz.func139.trans (congrArg some (by kernel_rfl))
  f246 := Tryz.func134.trans (congrArg some (by kernel_rfl))
  f247 := Tryz.func186.trans (congrArg some (by kernel_rfl))
  f279 := Tryz.func187.trans (congrArg some (by kernel_rfl))
  f280 := Tryz.func188.trans (congrArg some (by kernel_rfl))
  f281 := Tryz.func189.trans (congrArg some (by kernel_rfl))
  f282 := Tryz.func190.trans (congrArg some (by kernel_rfl))
  f283 := Tryz.func178.trans (congrArg some (by kernel_rfl))
  f284 := Tryz.func179.trans (congrArg some (by kernel_rfl))
  f285 := Tryz.func180.trans (congrArg some (by kernel_rfl))
  f286 := Tryz.func181.trans (congrArg some (by kernel_rfl))
  f287 := Tryz.func239.trans (congrArg some (by kernel_rfl))
  f316 := Tryz.func240.trans (congrArg some (by kernel_rfl))
  f317 := Tryz.func231.trans (congrArg some (by kernel_rfl))
  f318 := Tryz.func232.trans (congrArg some (by kernel_rfl))
  f319 := Tryz.func233.trans (congrArg some (by kernel_rfl))
  f320 := Tryz.func234.trans (congrArg some (by kernel_rfl))
  f321 := Tryz.func261.trans (congrArg some (by kernel_rfl))
  f322 := Tryz.func262.trans (congrArg some (by kernel_rfl))
  f337 := Tryz.func258.trans (congrArg some (by kernel_rfl))
  f338 := Tryz.func259.trans (congrArg some (by kernel_rfl))
  t0 := Tryz.underlying0
  a0 := Tryz.isAgg0
  z0 := Tryz.sizeOf0
  v0 := Tryz.zeroValue0
  t2 := Tryz.underlying2
  a2 := Tryz.isAgg2
  z2 := Tryz.sizeOf2
  v2 := Tryz.zeroValue2
  t3 := Tryz.underlying3
  a3 := Tryz.isAgg3
  z3 := Tryz.sizeOf3
  v3 := Tryz.zeroValue3
  t4 := Tryz.underlying4
  a4 := Tryz.isAgg4
  z4 := Tryz.sizeOf4
  v4 := Tryz.zeroValue4
  t5 := Tryz.underlying5
  a5 := Tryz.isAgg5
  z5 := Tryz.sizeOf5
  v5 := Tryz.zeroValue5
  t9 := Tryz.underlying9
  a9 := Tryz.isAgg9
  z9 := Tryz.sizeOf9
  v9 := Tryz.zeroValue9
  t20 := Tryz.underlying20
  a20 := Tryz.isAgg20
  z20 := Tryz.sizeOf20
  v20 := Tryz.zeroValue20
  t21 := Tryz.underlying21
  a21 := Tryz.isAgg21
  z21 := Tryz.sizeOf21
  v21 := Tryz.zeroValue21
  t37 := Tryz.underlying114
  a37 := Tryz.isAgg114
  z37 := Tryz.sizeOf114
  v37 := Tryz.zeroValue114
  t46 := Tryz.underlying146
  a46 := Tryz.isAgg146
  z46 := Tryz.sizeOf146
  v46 := Tryz.zeroValue146
  t51 := Tryz.underlying272
  a51 := Tryz.isAgg272
  z51 := Tryz.sizeOf272
  v51 := Tryz.zeroValue272
  t53 := Tryz.underlying243
  a53 := Tryz.isAgg243
  z53 := Tryz.sizeOf243
  v53 := Tryz.zeroValue243
  t75 := Tryz.underlying118
  a75 := Tryz.isAgg118
  z75 := Tryz.sizeOf118
  v75 := Tryz.zeroValue118
  t76 := Tryz.underlying119
  a76 := Tryz.isAgg119
  z76 := Tryz.sizeOf119
  v76 := Tryz.zeroValue119
  t85 := Tryz.underlying251
  a85 := Tryz.isAgg251
  z85 := Tryz.sizeOf251
  v85 := Tryz.zeroValue251
  t127 := Tryz.underlying187
  a127 := Tryz.isAgg187
  z127 := Tryz.sizeOf187
  v127 := Tryz.zeroValue187
  t143 := Tryz.underlying319
  a143 := Tryz.isAgg319
  z143 := Tryz.sizeOf319
  v143 := Tryz.zeroValue319
  t145 := Tryz.underlying321
  a145 := Tryz.isAgg321
  z145 := Tryz.sizeOf321
  v145 := Tryz.zeroValue321
  t167 := Tryz.underlying250
  a167 := Tryz.isAgg250
  z167 := Tryz.sizeOf250
  v167 := Tryz.zeroValue250
  t168 := Tryz.underlying253
  a168 := Tryz.isAgg253
  z168 := Tryz.sizeOf253
  v168 := Tryz.zeroValue253
  t171 := Tryz.underlying242
  a171 := Tryz.isAgg242
  z171 := Tryz.sizeOf242
  v171 := Tryz.zeroValue242
  t173 := Tryz.underlying246
  a173 := Tryz.isAgg246
  z173 := Tryz.sizeOf246
  v173 := Tryz.zeroValue246
  t175 := Tryz.underlying289
  a175 := Tryz.isAgg289
  z175 := Tryz.sizeOf289
  v175 := Tryz.zeroValue289
  t210 := Tryz.underlying293
  a210 := Tryz.isAgg293
  z210 := Tryz.sizeOf293
  v210 := Tryz.zeroValue293
  t212 := Tryz.underlying287
  a212 := Tryz.isAgg287
  z212 := Tryz.sizeOf287
  v212 := Tryz.zeroValue287
  t213 := Tryz.underlying288
  a213 := Tryz.isAgg288
  z213 := Tryz.sizeOf288
  t232 := Tryz.underlying328
  a232 := Tryz.isAgg328
  z232 := Tryz.sizeOf328
  v232 := Tryz.zeroValue328
  t233 := Tryz.underlying329
  a233 := Tryz.isAgg329
  z233 := Tryz.sizeOf329
  v233 := Tryz.zeroValue329
  g15 := by kernel_rfl
  g16 := by kernel_rfl
  g17 := by kernel_rfl
  g18 := by kernel_rfl
  g19 := by kernel_rfl
  t80 := Tryz.underlying123
  a80 := Tryz.isAgg123
  z80 := Tryz.sizeOf123
  v80 := Tryz.zeroValue123
  i0 := by kernel_rfl
  i2 := by kernel_rfl
  i3 := by kernel_rfl
  i4 := by kernel_rfl
  i5 := by kernel_rfl
  i9 := by kernel_rfl
  i20 := by kernel_rfl
  i21 := by kernel_rfl
  i37 := by kernel_rfl
  i46 := by kernel_rfl
  i51 := by kernel_rfl
  i53 := by kernel_rfl
  i75 := by kernel_rfl
  i76 := by kernel_rfl
  i80 := by kernel_rfl
  i85 := by kernel_rfl
  i127 := by kernel_rfl
  i143 := by kernel_rfl
  i145 := by kernel_rfl
  i167 := by kernel_rfl
  i168 := by kernel_rfl
  i171 := by kernel_rfl
  i173 := by kernel_rfl
  i175 := by kernel_rfl
  i210 := by kernel_rfl
  i212 := by kernel_rfl
  i232 := by kernel_rfl
  i233 := by kernel_rfl
  m15 := by kernel_rfl
  m16 := by kernel_rfl
  m17 := by kernel_rfl
  m18 := by kernel_rfl
  m19 := by kernel_rfl
  c0 := by kernel_rfl
  c2 := by kernel_rfl
  c3 := by kernel_rfl
  c4 := by kernel_rfl
  c5 := by kernel_rfl
  c9 := by kernel_rfl
  c20 := by kernel_rfl
  c21 := by kernel_rfl
  c37 := by kernel_rfl
  c46 := by kernel_rfl
  c51 := by kernel_rfl
  c53 := by kernel_rfl
  c75 := by kernel_rfl
  c76 := by kernel_rfl
  c80 := by kernel_rfl
  c85 := by kernel_rfl
  c127 := by kernel_rfl
  c143 := by kernel_rfl
  c145 := by kernel_rfl
  c167 := by kernel_rfl
  c168 := by kernel_rfl
  c171 := by kernel_rfl
  c173 := by kernel_rfl
  c175 := by kernel_rfl
  c210 := by kernel_rfl
  c212 := by kernel_rfl
  c213 := by kernel_rfl
  c232 := by kernel_rfl
  c233 := by kernel_rfl }
def txSplitR : Go.Shelf.Ren := ⟨fun | 146 => 39 | 221 => 91 | 268 => 135 | 138 => 136 | 143 => 137 | 195 => 182 | 197 => 183 | 218 => 184 | 219 => 185 | 260 => 235 | 217 => 167 | 225 => 236 | 224 => 237 | 267 => 238 | 266 => 220 | 314 => 260 | n => n, fun | 9 => 9 | 31 => 59 | 3 => 3 | 4 => 4 | 0 => 0 | 105 => 248 | 21 => 21 | 5 => 5 | 46 => 146 | 119 => 313 | 139 => 316 | 138 => 315 | 146 => 306 | 51 => 272 | n => n, fun | 1 => 1 | 3 => 5 | 4 => 6 | n => n⟩
theorem txSplit : Go.Proofs.Lays.n146 Tryz.prog txSplitR := {
  mixed := by kernel_rfl
  f138 := Tryz.func136.trans (congrArg some (by kernel_rfl))
  f143 := Tryz.func137.trans (congrArg some (by kernel_rfl))
  f146 := Tryz.func39.trans (congrArg some (by kernel_rfl))
  f195 := Tryz.func182.trans (congrArg some (by kernel_rfl))
  f197 := Tryz.func183.trans (congrArg some (by kernel_rfl))
  f217 := Tryz.func167.trans (congrArg some (by kernel_rfl))
  f218 := Tryz.func184.trans (congrArg some (by kernel_rfl))
  f219 := Tryz.func185.trans (congrArg some (by kernel_rfl))
  f221 := Tryz.func91.trans (congrArg some (by kernel_rfl))
  f224 := Tryz.func237.trans (congrArg some (by kernel_rfl))
  f225 := Tryz.func236.trans (congrArg some (by kernel_rfl))
  f260 := Tryz.func235.trans (congrArg some (by kernel_rfl))
  f266 := Tryz.func220.trans (congrArg some (by kernel_rfl))
  f267 := Tryz.func238.trans (congrArg some (by kernel_rfl))
  f268 := Tryz.func135.trans (congrArg some (by kernel_rfl))
  f314 := Tryz.func260.trans (congrArg some (by kernel_rfl))
  t0 := Tryz.underlying0
  a0 := Tryz.isAgg0
  z0 := Tryz.sizeOf0
  v0 := Tryz.zeroValue0
  t3 := Tryz.underlying3
  a3 := Tryz.isAgg3
  z3 := Tryz.sizeOf3
  v3 := Tryz.zeroValue3
  t4 := Tryz.underlying4
  a4 := Tryz.isAgg4
  z4 := Tryz.sizeOf4
  v4 := Tryz.zeroValue4
  t5 := Tryz.underlying5
  a5 := Tryz.isAgg5
  z5 := Tryz.sizeOf5
  v5 := Tryz.zeroValue5
  t9 := Tryz.underlying9
  a9 := Tryz.isAgg9
  z9 := Tryz.sizeOf9
  v9 := Tryz.zeroValue9
  t21 := Tryz.underlying21
  a21 := Tryz.isAgg21
  z21 := Tryz.sizeOf21
  v21 := Tryz.zeroValue21
  t31 := Tryz.underlying59
  a31 := Tryz.isAgg59
  z31 := Tryz.sizeOf59
  v31 := Tryz.zeroValue59
  t46 := Tryz.underlying146
  a46 := Tryz.isAgg146
  z46 := Tryz.sizeOf146
  v46 := Tryz.zeroValue146
  t51 := Tryz.underlying272
  a51 := Tryz.isAgg272
  z51 := Tryz.sizeOf272
  v51 := Tryz.zeroValue272
  t105 := Tryz.underlying248
  a105 := Tryz.isAgg248
  z105 := Tryz.sizeOf248
  v105 := Tryz.zeroValue248
  t119 := Tryz.underlying313
  a119 := Tryz.isAgg313
  z119 := Tryz.sizeOf313
  t138 := Tryz.underlying315
  a138 := Tryz.isAgg315
  z138 := Tryz.sizeOf315
  v138 := Tryz.zeroValue315
  t139 := Tryz.underlying316
  a139 := Tryz.isAgg316
  z139 := Tryz.sizeOf316
  v139 := Tryz.zeroValue316
  t146 := Tryz.underlying306
  a146 := Tryz.isAgg306
  z146 := Tryz.sizeOf306
  v146 := Tryz.zeroValue306
  g1 := by kernel_rfl
  g3 := by kernel_rfl
  g4 := by kernel_rfl }
def txJoinR : Go.Shelf.Ren := ⟨fun | 156 => 37 | 165 => 89 | 166 => 58 | 169 => 60 | 240 => 110 | 241 => 133 | 276 => 165 | 277 => 177 | n => n, fun | 31 => 59 | 9 => 9 | 3 => 3 | 4 => 4 | 0 => 0 | 20 => 20 | 72 => 116 | 76 => 119 | 70 => 113 | 37 => 114 | 75 => 118 | 127 => 187 | 164 => 230 | 5 => 5 | 80 => 123 | n => n, fun | n => n⟩
theorem txJoin : Go.Proofs.Lays.n156 Tryz.prog txJoinR := {
  mixed := by kernel_rfl
  f156 := Tryz.func37.trans (congrArg some (by kernel_rfl))
  f165 := Tryz.func89.trans (congrArg some (by kernel_rfl))
  f166 := Tryz.func58.trans (congrArg some (by kernel_rfl))
  f169 := Tryz.func60.trans (congrArg some (by kernel_rfl))
  f240 := Tryz.func110.trans (congrArg some (by kernel_rfl))
  f241 := Tryz.func133.trans (congrArg some (by kernel_rfl))
  f276 := Tryz.func165.trans (congrArg some (by kernel_rfl))
  f277 := Tryz.func177.trans (congrArg some (by kernel_rfl))
  t0 := Tryz.underlying0
  a0 := Tryz.isAgg0
  z0 := Tryz.sizeOf0
  v0 := Tryz.zeroValue0
  t3 := Tryz.underlying3
  a3 := Tryz.isAgg3
  z3 := Tryz.sizeOf3
  v3 := Tryz.zeroValue3
  t4 := Tryz.underlying4
  a4 := Tryz.isAgg4
  z4 := Tryz.sizeOf4
  v4 := Tryz.zeroValue4
  t9 := Tryz.underlying9
  a9 := Tryz.isAgg9
  z9 := Tryz.sizeOf9
  v9 := Tryz.zeroValue9
  t20 := Tryz.underlying20
  a20 := Tryz.isAgg20
  z20 := Tryz.sizeOf20
  v20 := Tryz.zeroValue20
  t31 := Tryz.underlying59
  a31 := Tryz.isAgg59
  z31 := Tryz.sizeOf59
  v31 := Tryz.zeroValue59
  t37 := Tryz.underlying114
  a37 := Tryz.isAgg114
  z37 := Tryz.sizeOf114
  v37 := Tryz.zeroValue114
  t70 := Tryz.underlying113
  a70 := Tryz.isAgg113
  z70 := Tryz.sizeOf113
  v70 := Tryz.zeroValue113
  t72 := Tryz.underlying116
  a72 := Tryz.isAgg116
  z72 := Tryz.sizeOf116
  v72 := Tryz.zeroValue116
  t75 := Tryz.underlying118
  a75 := Tryz.isAgg118
  z75 := Tryz.sizeOf118
  v75 := Tryz.zeroValue118
  t76 := Tryz.underlying119
  a76 := Tryz.isAgg119
  z76 := Tryz.sizeOf119
  v76 := Tryz.zeroValue119
  t127 := Tryz.underlying187
  a127 := Tryz.isAgg187
  z127 := Tryz.sizeOf187
  v127 := Tryz.zeroValue187
  t164 := Tryz.underlying230
  a164 := Tryz.isAgg230
  z164 := Tryz.sizeOf230
  v164 := Tryz.zeroValue230 }
theorem txExtra : Builder.Extra Tryz.prog txJoinR := {
  sizeBuilder := by kernel_rfl
  liesBuilder := by kernel_rfl
  t5 := Tryz.underlying5
  a5 := Tryz.isAgg5
  z5 := Tryz.sizeOf5
  v5 := Tryz.zeroValue5
  infoByte := by kernel_rfl
  cellsByte := by kernel_rfl
  sizeByte := by kernel_rfl
  neB5 := by decide }
theorem tab_of {P : Program} {w : World} {name : String} {g : Nat} {k : IntKind} {zs : List Int} {cs : Array Value} {T : TypeId} {z : Nat × Nat} (hn : P.globalNamed name = some g) (h : w.heap[g]? = some (.cells cs T z)) (h2 : cs = (zs.map fun z => Value.int k z).toArray) : Lib.TabIs P w name k zs := by
  unfold Lib.TabIs World.var?
  rw [hn, Option.bind_some, h, h2]
theorem cell_of {w : World} {g j : Nat} {cs : Array Value} {T : TypeId} {z : Nat × Nat} (h : w.heap[g]? = some (.cells cs T z)) : w.cell? ⟨g, j, none⟩ = cs[j]? := by
  simp [World.cell?, h]
theorem below_grow (w : World) (n : Nat) (os : Array Obj) : RowKit.Below w.heap.size w (Sort.grow (w.drewN n) os) :=
  ⟨rfl, rfl, rfl, by simp [Sort.grow], fun b hb => by simp only [Sort.grow, World.drewN]; rw [Array.getElem?_append_left (by simpa using hb)]⟩
theorem itoa_call {n : Int} (h : inI n = true) : FnL Tryz.prog 38 [vi n] [] (vt (itoaL n)) [] := by
  have hn : -9223372036854775808 ≤ n ∧ n ≤ 9223372036854775807 := by simpa [inI] using h
  refine FnL_lib Tryz.call38 (vs := [.int .i64 n]) fun w F hg => ?_
  obtain ⟨_, cs, T, z, h1, h2⟩ := hg.2 _ (List.Mem.head _)
  refine (Any.strconv_Itoa txItoa n hn.1 hn.2 w (tab_of (by kernel_rfl) h1 (h2.trans rfl))).mono ?_
  rintro e w' ⟨rfl, k, os, rfl⟩
  exact ⟨_, rfl, below_grow w k os, fun β => .fr (.p rfl)⟩
theorem vrep_pair {w : World} {F : Nat → Prop} {β : Beta} {a b : Value} {x y : V} (h : VRep w F β a x) (g : VRep w F β b y) : VRep w F β (.tuple #[a, b]) (.tup [x, y]) :=
  .tup rfl fun j hj => by
    match j, hj with
    | 0, _ => exact h
    | 1, _ => exact g
theorem atoi_call {s : Str} (h : Nat.ble s.length 281474976710656 = true) : FnL Tryz.prog 92 [vt s] [] (.tup [vi (atoiL s).1, errV 253 (atoiL s).2]) [] := by
  have hl := Nat.le_of_ble_eq_true h
  refine FnL_lib Tryz.call92 (vs := [.string ⟨⟨s⟩⟩]) fun w F hg => ?_
  obtain ⟨_, cs, T, z, h1, ev, h2, h3⟩ := hg.2 _ (List.Mem.tail _ (List.Mem.tail _ (List.Mem.head _)))
  obtain ⟨_, cs', T', z', h1', ev', h2', h3'⟩ := hg.2 _ (List.Mem.tail _ (List.Mem.tail _ (List.Mem.tail _ (List.Mem.head _))))
  cases hs : Lib.atoiAll s with
  | ok v =>
    refine (Any.strconv_Atoi_ok txAtoi ⟨⟨s⟩⟩ (by show s.length ≤ _; omega) v hs w).mono ?_
    rintro e w' ⟨rfl, hw⟩
    refine ⟨_, rfl, ?_, fun β => ?_⟩
    · rcases hw with rfl | ⟨t, rfl⟩
      · exact RowKit.Below.refl _ _
      · exact ⟨by simp [Lib.bytesWorld, World.freeze, World.alloc, World.drew, -World.alloc_eq, -World.drew_eq], by simp [Lib.bytesWorld, World.freeze, World.alloc, World.drew, -World.alloc_eq, -World.drew_eq], by simp [Lib.bytesWorld, World.freeze, World.alloc, World.drew, -World.alloc_eq, -World.drew_eq], by rw [Lib.bytesWorld_size]; omega, fun b hb => Lib.bytesWorld_at_old _ _ _ b hb⟩
    · rw [atoiL, hs]
      exact vrep_pair (.fr (.p rfl)) (.fr (.p rfl))
  | range =>
    refine (Any.strconv_Atoi_range txAtoi ⟨⟨s⟩⟩ (by show s.length ≤ _; omega) hs ev' w ((cell_of h1').trans h2') h3').mono ?_
    rintro e w' ⟨N, rfl, _, _, hb⟩
    refine ⟨_, rfl, hb, fun β => ?_⟩
    rw [atoiL, hs]
    exact vrep_pair (.fr (.p rfl)) (.iface .undef)
  | _ =>
    refine (Any.strconv_Atoi_syntax txAtoi ⟨⟨s⟩⟩ (by show s.length ≤ _; omega) hs ev w ((cell_of h1).trans h2) h3).mono ?_
    rintro e w' ⟨N, rfl, _, _, hb⟩
    refine ⟨_, rfl, hb, fun β => ?_⟩
    rw [atoiL, hs]
    exact vrep_pair (.fr (.p rfl)) (.iface .undef)
theorem split_call {s : Str} {c : UInt8} (h : Nat.blt s.length 4294967281 = true) : FnL Tryz.prog 39 [vt s, vt [c]] [] (eS 1 vt (splitL c s)) [] := by
  have hl : s.length < 4294967281 := Nat.le_of_ble_eq_true h
  refine FnL_lib Tryz.call39 (vs := [.string ⟨⟨s⟩⟩, .string ⟨⟨[c]⟩⟩]) fun w F hg => ?_
  obtain ⟨_, cs, T, z, h1, m, h2⟩ := hg.2 _ (List.Mem.tail _ (List.Mem.head _))
  refine (Any.strings_Split txSplit (by kernel_rfl) ⟨⟨s⟩⟩ ⟨⟨[c]⟩⟩ m w hl ((cell_of h1).trans h2) (Nat.le_refl 1)).mono ?_
  rintro e w' ⟨rfl, rfl⟩
  have hk := Lib.splitB_all ⟨⟨[c]⟩⟩ (Nat.le_refl 1) 0 _ ⟨⟨s⟩⟩ rfl
  have hlen : (splitL c s).length = Lib.countB ⟨⟨s⟩⟩ ⟨⟨[c]⟩⟩ + 1 := by
    have := congrArg List.length (splitB_one c s)
    simp only [List.length_map] at this
    rw [← this, hk]
  refine ⟨_, rfl, ⟨rfl, rfl, rfl, by simp, fun b hb => heap_alloc_old w _ hb⟩, fun β => .fr ?_⟩
  rw [← hlen]
  exact frep_strings (.inr ⟨Nat.le_refl _, by simp⟩) (Nat.le_refl _) (by rw [splitB_one]; exact heap_alloc_new w _)
theorem join_cells {w : World} {b off cap : Nat} {l : List Str} {sep : Str} (hb : b < w.heap.size) (hcap : l.length ≤ cap) (hc : ∀ j s, l[j]? = some s → w.cell? ⟨b, off + j, none⟩ = some (.string ⟨⟨s⟩⟩))
    (h1 : l.length ≤ 140737488355328) (h2 : (joinL l sep).length ≤ 140737488355328) :
    Calls Tryz.prog 37 #[.slice (some ⟨b, off, none⟩) l.length cap, .string ⟨⟨sep⟩⟩] w fun e w' => e = .returned (.string ⟨⟨joinL l sep⟩⟩) ∧ RowKit.Below w.heap.size w w' := by
  have hm : ((l.map fun s => (⟨⟨s⟩⟩ : ByteArray)).map fun x => x.data.toList) = l := by rw [List.map_map]; exact List.map_id _
  have := Any.strings_Join txJoin txExtra b off cap (l.map fun s => ⟨⟨s⟩⟩) ⟨⟨sep⟩⟩ w (fun j x hx => by
    rw [List.getElem?_map, Option.map_eq_some_iff] at hx
    obtain ⟨s, h, rfl⟩ := hx
    exact hc j s h) hb (by simpa using h1) (by simpa using hcap) (by rw [hm]; exact h2)
  rw [hm, List.length_map] at this
  exact this
theorem join_callO {l : List Str} {sep : Str} (h1 : Nat.ble l.length 140737488355328 = true) (h2 : Nat.ble (joinL l sep).length 140737488355328 = true) : FnL Tryz.prog 37 [.own 0 0 l.length, vt sep] [some (.row 1 (List.map vt l))] (vt (joinL l sep)) [some (.row 1 (List.map vt l))] := by
  have h1 := Nat.le_of_ble_eq_true h1
  have h2 := Nat.le_of_ble_eq_true h2
  refine ⟨Tryz.call37, Nat.le_refl _, fun j hj => ?_, fun w F β args hr hc => ?_⟩
  · have : j = 0 := by simpa using hj
    subst this
    simp [oget]
  obtain ⟨hs, hv⟩ := hc
  obtain ⟨v, u, rfl⟩ : ∃ v u, args = #[v, u] := by
    have : args.toList.length = 2 := by simpa using hs
    match hL : args.toList, this with
    | [v, u], _ => exact ⟨v, u, Array.ext' (by simpa using hL)⟩
  have hv0 : VRep w F β v (.own 0 0 l.length) := hv 0 (by simp)
  have hv1 : VRep w F β u (vt sep) := hv 1 (by simp)
  have hu := hv1.p_inv.1
  subst hu
  have h0 : oget [some (AObj.row 1 (List.map vt l))] 0 = some (.row 1 (List.map vt l)) := rfl
  have hat : SlAt w F β 1 v (List.map vt l) := by
    have := hv0.own_at hr h0 (by simp)
    rwa [List.drop_zero, List.take_of_length_le (by simp)] at this
  obtain ⟨a, cap, rfl, hrow⟩ := hat
  rw [List.length_map]
  rcases hrow with hnil | ⟨b, p, rfl, _, _, hcell⟩
  · have : l = [] := by
      cases l with
      | nil => rfl
      | cons _ _ => cases hnil
    subst this
    refine (Any.strings_Join_none txJoin txExtra a cap ⟨⟨sep⟩⟩ w).mono ?_
    rintro e w' ⟨rfl, rfl⟩
    exact ⟨_, F, β, rfl, hr, .fr (.p rfl), Evolve.refl _ _ _ _⟩
  · by_cases hl0 : l = []
    · subst hl0
      refine (Any.strings_Join_none txJoin txExtra _ cap ⟨⟨sep⟩⟩ w).mono ?_
      rintro e w' ⟨rfl, rfl⟩
      exact ⟨_, F, β, rfl, hr, .fr (.p rfl), Evolve.refl _ _ _ _⟩
    · have hpos : 0 < l.length := List.length_pos_iff.2 hl0
      have hcs : ∀ j s, l[j]? = some s → w.cell? ⟨b, p + j, none⟩ = some (.string ⟨⟨s⟩⟩) := fun j s hj => by
        have hj' : j < l.length := by
          rcases Nat.lt_or_ge j l.length with h | h
          · exact h
          · rw [List.getElem?_eq_none h] at hj; cases hj
        obtain ⟨q, g1, g2⟩ := hcell j 0 (by simpa using hj') Nat.one_pos
        have e : nth (nth (l.map vt) j).flat 0 = vt s := by
          have : nth (l.map vt) j = vt s := by simp [nth, List.getD, hj]
          rw [this]; rfl
        rw [e] at g2
        have := g2.p_inv.1
        rw [Nat.mul_one, Nat.add_zero] at g1
        rw [g1, this]
      have hb : b < w.heap.size := by
        obtain ⟨s0, hs0⟩ : ∃ s0, l[0]? = some s0 := ⟨l[0], List.getElem?_eq_getElem hpos⟩
        exact World.block_lt_of_cell? _ _ (hcs 0 s0 hs0)
      have hcap : l.length ≤ cap := by
        rcases hv0.own_inv with ⟨_, _, _, _, _, _, g, _, e⟩ | ⟨_, _, hz, _, _⟩
        · rw [List.length_map] at e; cases e; exact g
        · omega
      refine (join_cells (sep := sep) hb hcap hcs h1 h2).mono ?_
      rintro e w' ⟨rfl, hbl⟩
      obtain ⟨r1, ev⟩ := hr.fresh hbl
      exact ⟨_, _, β, rfl, r1, .fr (.p rfl), ev⟩
end
section
open Go Go.Proofs
def keepT : List (Nat × List Nat) := [(6, [0, 1, 2, 3, 4, 5, 6, 7]), (29, [0, 1, 2, 6, 7, 8, 9, 10, 11, 12, 13, 15, 16, 17, 19, 20, 22, 23, 24, 25, 26, 27, 28, 29, 30, 34, 39, 46, 50, 51, 52, 53, 63, 77, 78, 79, 80, 81, 85, 86, 87, 88, 127, 128, 129, 140, 144, 145, 146, 147, 155, 180]), (30, [0]), (31, [0]), (32, [0, 1, 4, 5, 6, 7, 8, 10, 11, 12, 17, 21, 22, 23, 24, 28, 29, 30, 35]), (33, [0, 1, 2, 3, 4, 5, 6, 8, 9, 10, 11, 12, 13, 15, 16, 20, 24, 28, 31, 35, 36, 37, 38, 52, 53, 54, 55, 83, 84, 85, 86]), (34, [0, 1, 4, 5, 10, 14, 25]), (35, [0, 1, 4, 5, 10, 14, 26]), (36, [0, 1, 4, 5, 10, 14, 25]), (53, [0, 1, 4, 5, 7, 8, 9, 16]), (56, [0, 2, 3, 4, 7, 9, 10, 11, 17, 25]), (59, [0, 2, 3, 5, 6, 8, 9, 10, 11, 12, 20, 25, 26, 27, 28]), (70, [0, 2, 3, 4, 7, 8, 9, 10, 11, 15, 20, 28]), (71, [0, 1, 4, 6, 7, 8, 9, 10, 11, 17, 22, 34]), (72, [0, 1, 2, 4, 5, 6, 8, 9, 13, 14, 15, 16, 24]), (73, [0, 1, 4, 5, 7, 8, 9, 10, 11]), (74, [0, 1, 3, 4, 5, 10, 11, 12, 18, 39]), (75, [0, 1, 4, 5, 6, 7, 8, 9, 10, 11, 19]), (76, [0, 2, 3, 5, 6, 7, 8, 9, 14]), (77, [0, 1, 4, 5, 6, 11, 12, 13, 16, 19]), (78, [0, 1, 4, 5, 6, 7, 8, 9, 10, 11, 12, 19, 28, 35]), (79, [0, 1, 4, 5, 6, 8, 13, 17, 18, 19, 20, 21, 39]), (80, [0, 2, 4]), (81, [0, 1, 4, 5, 7, 8, 9, 16]), (82, [0, 1, 2, 3]), (83, [0, 1, 2, 6]), (84, [0, 1, 4]), (85, [0, 2]), (86, [0, 2, 3, 4, 7, 15]), (87, [0, 1]), (88, [0, 1, 2, 3, 4, 7]), (107, [0, 1, 4, 5, 6, 7, 9, 10, 15, 20, 27, 38, 66, 69, 70, 71, 72, 77, 82]), (108, [0, 1, 3, 4, 5, 6, 7, 13]), (109, [2]), (111, [0, 1, 4, 6, 16]), (120, [0, 2, 3, 4, 5, 7, 8, 9, 10, 45]), (121, [0, 1, 3, 4]), (122, [0, 1, 3, 4]), (123, [0, 1, 4]), (124, [0, 1, 3]), (125, [0, 2]), (126, [0, 2]), (127, [0, 1, 4, 5, 6, 11, 12, 13, 16, 19]), (128, [0, 1, 2, 12]), (129, [0, 1, 2, 3, 8, 9, 11, 12, 13, 17, 19, 20, 21, 22, 30, 34, 42]), (130, [0, 1, 2]), (131, [0, 1, 4, 5, 7, 8, 9, 16]), (132, [0, 1, 2, 6, 7, 8, 9, 13, 30, 35, 54]), (142, [0, 1, 4]), (152, [0, 2]), (156, [0, 2]), (157, [0, 1, 4]), (158, [0, 1, 4, 5, 6, 7, 8, 9, 10, 14, 19]), (159, [0, 1, 4, 5, 6, 7, 8, 9, 10, 14, 19, 25]), (160, [0, 1, 2, 4]), (161, [0, 1, 4, 5, 7, 8, 9, 16]), (162, [0, 1, 2, 3]), (163, [0, 1, 4]), (164, [0, 1, 2]), (169, [0, 1, 4, 5, 7, 8, 9, 16]), (170, [0, 1, 2, 3]), (171, [0, 1, 2, 3]), (172, [0, 1, 4, 5, 7, 8, 9, 16]), (173, [0, 1, 2, 3, 8, 9, 10, 11, 12, 13, 14, 15, 16, 17, 18, 23, 29, 35, 50, 68, 72, 87, 113]), (174, [0, 2]), (175, [0, 1, 2, 3, 8, 9, 14, 34]), (176, [0, 1, 2, 3, 4, 10, 11, 12, 13, 14, 15, 16, 17, 18, 19, 20, 21, 22, 23, 24, 28, 33, 50, 58, 80, 85, 103, 110, 140, 151, 171, 185, 199, 213]), (211, [0, 2, 4, 8]), (212, [0, 2, 4, 8, 14]), (216, [0, 1, 4, 5, 7, 8, 9, 16]), (217, [0, 1, 4]), (218, [0, 1, 2, 3]), (219, [0, 1, 4, 5, 7, 8, 9, 16]), (221, [0, 1, 2, 6, 7, 12, 30]), (222, [0, 1, 2, 6, 7, 8, 9, 10, 19, 30]), (223, [0, 1, 2, 6, 7, 8, 9, 10, 15, 33, 43]), (224, [0, 1, 2, 6, 7, 8, 9, 10, 11, 12, 32, 34, 49, 51, 54]), (225, [0, 1, 2, 6, 7, 13]), (226, [0, 1, 2, 6, 7, 8, 9, 10, 14, 32, 37, 41, 61, 65, 78, 98, 103, 116]), (227, [0, 1, 4]), (228, [0, 1, 2, 3, 8, 9, 10, 43, 59, 64]), (229, [0, 1, 2, 3, 8, 9, 10, 11, 43, 60, 65, 112, 129, 134]), (230, [0, 1, 2, 3, 4, 10, 11, 20, 23]), (246, [0, 2]), (247, [0, 2]), (253, [0, 1, 4, 5, 7, 8, 9, 16]), (254, [0, 1, 2, 3, 8, 9, 16, 36, 52]), (255, [0, 1, 2, 6]), (256, [0, 1, 2, 3, 4, 10]), (257, [0, 1, 2, 3, 10, 13]), (266, [0, 1, 2, 3, 8, 9, 18])]
def keepOf (f : Nat) : List Nat := match keepT.find? (fun p => Nat.beq p.1 f) with
  | some p => p.2
  | none => []
theorem closed_ok : FnL Tryz.prog 6 [] [] (vb true) [] := funE_sound (by kernel_rfl) 200 false 6 [] [] _ _ (by kernel_rfl : funE Tryz.prog keepOf 1000 200 false 6 [] [] = some (vb true, []))
end
theorem agraffelaw08_awake_ok (n : Nat) (r : Bool) (h : agraffelaw08_awake n = some r) : FnL Tryz.prog 6 [] [] (vb r) [] := by
 cases h
 exact closed_ok
theorem agraffelaw08_promised_ok (n : Nat) (a0 : List PartPromise) (r : Bool) (h : agraffelaw08_promised n a0 = some r) : FnL Tryz.prog 7 [eS 3 ePartPromise a0] [] (vb r) [] := by
 dsimp only [agraffelaw08_promised] at h
 refine fo [2] Tryz.call7 Tryz.func7 rfl ?_
 refine sk .a ?_
 refine q1 ?_
 refine sj ?_
 refine rk 1 (.k (.i 4 (eS 3 ePartPromise a0) .n)) ?_
 refine jo 5 (.len 0 4) (ok_len_m rfl) ?_
 refine jo 6 (.bin .gtr false 5 (ki 12)) (n_gtr (i := a0.length) (j := 12) rfl rfl) ?_
 refine rk 1 (.d2 (.k (.i 7 (vb (decide (12 < a0.length))) .n))) ?_
 refine gj (eS 3 ePartPromise a0) 8 (.mov 0) 7 true rfl ?_
 refine gv 9 (.len 0 8) 7 true rfl (fun hg => (ok_len_m rfl)) (fun hg => (.cons hg .nil)) ?_
 refine gv 10 (.bin .leq false 9 (ki 200)) 7 true rfl (fun hg => (n_leq (i := a0.length) (j := 200) rfl rfl)) (fun hg => (.cons hg (.cons rfl .nil))) ?_
 refine pa 11 7 10 rfl rfl ?_
 refine rk 1 (.d4 (.k (.i 12 (vb ((decide (12 < a0.length)) && (decide (a0.length ≤ 200)))) .n))) ?_
 refine gj (eS 3 ePartPromise a0) 13 (.mov 0) 12 false rfl ?_
 refine gv 14 (.len 0 13) 12 false rfl (fun hg => (ok_len_m rfl)) (fun hg => (.cons hg .nil)) ?_
 refine gv 15 (.bin .gtr false 14 (ki 203)) 12 false rfl (fun hg => (n_gtr (i := a0.length) (j := 203) rfl rfl)) (fun hg => (.cons hg (.cons rfl .nil))) ?_
 refine po 16 12 15 rfl rfl ?_
 refine jf (.d4 (.k (.i 16 (vb (((decide (12 < a0.length)) && (decide (a0.length ≤ 200))) || (decide (203 < a0.length)))) .n))) ?_
 refine tc h (fun c1 h => ?_) (fun c1 h => ?_)
 ·refine sk (.i 2 (vb false) .n) ?_
  refine q3 ?_
  have h := si h
  subst h
  exact DoneS.ret Sees.refl rfl rfl
 refine q2 ?_
 refine TriE.seqK h (fun (_ : Unit) => St.mk [] []) ?_ ?_
 ·rintro ⟨⟩ h
  refine sk (.i 2 (vb true) .n) ?_
  refine q3 ?_
  have h := si h
  subst h
  exact DoneS.ret Sees.refl rfl rfl
 intro k1 h
 refine sk (.k (.i 3 (vi 0) .n)) ?_
 refine q4 ?_
 refine ts (.k (.i 3 (vi 0) .n)) ?_
 refine TriE.loopN h (fun (v1 : Nat) => St.mk [(0, eS 3 ePartPromise a0), (3, vi v1)] []) rfl ?_
 clear h
 rintro back v1 h
 dsimp only [agraffelaw08_promised_L1] at h
 refine q1 ?_
 refine sj ?_
 refine rk 2 (.k2 (.i 17 (vi v1) (.i 18 (eS 3 ePartPromise a0) .n))) ?_
 refine jo 19 (.len 0 18) (ok_len_m rfl) ?_
 refine jo 20 (.bin .lss false 17 19) (n_lss (i := v1) (j := a0.length) rfl rfl) ?_
 refine jf (.d2 (.k2 (.i 20 (vb (decide (v1 < a0.length))) .n))) ?_
 refine tc h (fun c2 h => ?_) (fun c2 h => ?_)
 ·refine q2 ?_
  refine q7 ?_
  refine sj ?_
  refine rk 2 (.k2 (.i 23 (eS 3 ePartPromise a0) (.i 24 (vi v1) .n))) ?_
  refine jo 25 (.iaddr 3 23 24) (ok_iaddr_m (j := v1) rfl rfl rfl c2) ?_
  refine rk 1 (.d (.k2 (.i 26 (.fptr 3 (List.map ePartPromise a0) v1 0) .n))) ?_
  refine jo 27 (.load false 1 26) (ok_load_fm (v := vt ((ix a0 v1).Instrument)) rfl c2 rfl) ?_
  refine jo 28 (.len 1 27) (ok_len_t rfl) ?_
  refine jo 29 (.bin .gtr false 28 (ki 20)) (n_gtr (i := ((ix a0 v1).Instrument).length) (j := 20) rfl rfl) ?_
  refine rk 1 (.d3 (.k2 (.i 30 (vb (decide (20 < (((ix a0 v1).Instrument).length)))) .n))) ?_
  refine gj (eS 3 ePartPromise a0) 31 (.mov 0) 30 false rfl ?_
  refine gj (vi v1) 32 (.mov 3) 30 false rfl ?_
  refine gv 33 (.iaddr 3 31 32) 30 false rfl (fun hg => (ok_iaddr_m (j := v1) rfl rfl rfl c2)) (fun hg => (.cons hg (.cons hg .nil))) ?_
  refine gk (.fptr 3 (List.map ePartPromise a0) v1 1) 34 (.faddr 1 33) 30 false rfl (fun hg => (.cons hg .nil)) ?_
  refine gv 35 (.load false 1 34) 30 false rfl (fun hg => (ok_load_fm (v := vt ((ix a0 v1).Part)) rfl c2 rfl)) (fun hg => (.cons hg .nil)) ?_
  refine gv 36 (.len 1 35) 30 false rfl (fun hg => (ok_len_t rfl)) (fun hg => (.cons hg .nil)) ?_
  refine gv 37 (.bin .gtr false 36 (ki 20)) 30 false rfl (fun hg => (n_gtr (i := ((ix a0 v1).Part).length) (j := 20) rfl rfl)) (fun hg => (.cons hg (.cons rfl .nil))) ?_
  refine po 38 30 37 rfl rfl ?_
  refine jf (.d4 (.d4 (.k2 (.i 38 (vb ((decide (20 < (((ix a0 v1).Instrument).length))) || (decide (20 < (((ix a0 v1).Part).length))))) .n)))) ?_
  refine tc h (fun c3 h => ?_) (fun c3 h => ?_)
  ·refine sk (.i 2 (vb false) .n) ?_
   refine q3 ?_
   have h := si h
   subst h
   exact DoneS.ret Sees.refl rfl rfl
  refine q2 ?_
  refine q6 ?_
  refine rk 1 (.k (.i 21 (vi v1) .n)) ?_
  refine cK h fun c4 h => ?_
  refine jo 22 (.bin .add false 21 (ki 1)) (r_addn (i := v1) (j := 1) rfl rfl c4) ?_
  refine jk 1 (.d (.k (.i 3 (vi ((v1 + 1 : Nat) : Int)) .n))) ?_
  exact Vs.intro sy ⟨(v1 + 1), rfl, h⟩
 refine q5 ?_
 exact Vs.intro sy ⟨(), rfl, h⟩
theorem strconv_Itoa_ok (n : Nat) (a0 : Int) (r : Str) (h : strconv_Itoa n a0 = some r) : FnL Tryz.prog 38 [vi a0] [] (vt r) [] := by
 refine cK h fun c h => ?_
 cases h
 exact itoa_call c
theorem strings_Join_ok (n : Nat) (a0 : List Str) (a1 : Str) (r : Str) (h : strings_Join n a0 a1 = some r) : FnL Tryz.prog 37 [.own 0 0 a0.length, vt a1] [some (.row 1 (List.map vt a0))] (vt r) [some (.row 1 (List.map vt a0))] := by
 refine cK h fun c1 h => ?_
 refine cK h fun c2 h => ?_
 cases h
 exact join_callO c1 c2
theorem restore_FormatPromise_ok (n : Nat) (a0 : PartPromise) (r : Str) (h : restore_FormatPromise n a0 = some r) : FnL Tryz.prog 8 [.agg [vt a0.Instrument, vt a0.Part, vi a0.Count]] [] (vt r) [] := by
 dsimp only [restore_FormatPromise] at h
 refine fo [2] Tryz.call8 Tryz.func8 rfl ?_
 refine sko (.i 1 (.ptr 0 0 0) .n) [some (.row 3 [.agg [vt a0.Instrument, vt a0.Part, vi a0.Count]])] ?_
 refine q1 ?_
 refine ts .a ?_
 refine TriE.draw (by kernel_rfl) ?_
 refine dk 6 (.i 8 (vi a0.Count) (.i 7 (.ptr 0 0 2) (.i 6 (vt a0.Part) (.i 5 (.ptr 0 0 1) (.i 4 (vt a0.Instrument) (.i 3 (.ptr 0 0 0) .a)))))) ?_
 refine bK h fun y1 hy1 h => ?_
 refine dc (vt y1) 0 9 [8] (strconv_Itoa_ok n a0.Count y1 hy1) [] rfl ObsRen.nil ObsRen.nil rfl (.inr ⟨rfl, rfl⟩) ?_
 refine dko 1 (.i 10 (.own 8 0 3) .a) [some (.row 3 [.agg [vt a0.Instrument, vt a0.Part, vi a0.Count]]), none, none, none, none, none, none, none, some (.row 1 [vt a0.Instrument, vt a0.Part, vt y1])] ?_
 refine bK h fun y2 hy2 h => ?_
 refine dc (vt y2) 0 11 [10, (.c (.p (.string ⟨#[32]⟩)))] (strings_Join_ok n ([a0.Instrument, a0.Part, y1] : List Str) ([32] : Str) y2 hy2) [8] rfl (.same (row_ren vt_frz _ _ _) .nil) (.same (row_ren vt_frz _ _ _) .nil) rfl (.inr ⟨rfl, rfl⟩) ?_
 refine dk 1 (.i 2 (vt y2) .a) ?_
 refine dfi (.k .n) [] ObRen.nil ?_
 refine q3 ?_
 have h := si h
 subst h
 exact DoneS.ret Sees.refl rfl rfl
theorem strings_Split_ok (n : Nat) (a0 : Str) (a1 : Str) (r : List Str) (h : strings_Split n a0 a1 = some r) : FnL Tryz.prog 39 [vt a0, vt a1] [] (eS 1 vt r) [] := by
 refine cK h fun c h => ?_
 match a1, h with
 | [_], h => cases h; exact split_call c
theorem strconv_Atoi_ok (n : Nat) (a0 : Str) (r : (Int × Bool)) (h : strconv_Atoi n a0 = some r) : FnL Tryz.prog 92 [vt a0] [] (.tup [vi r.1, errV 253 r.2]) [] := by
 refine cK h fun c h => ?_
 cases h
 exact atoi_call c
theorem internal_stringslite_HasPrefix_ok (n : Nat) (a0 : Str) (a1 : Str) (r : Unit) (h : internal_stringslite_HasPrefix n a0 a1 = some r) : FnL Tryz.prog 191 [vt a0, vt a1] [] (vb ((decide (a1.length ≤ a0.length)) && ((List.take a1.length a0) == a1))) [] := by
 dsimp only [internal_stringslite_HasPrefix] at h
 refine fo [4] Tryz.call191 Tryz.func191 rfl ?_
 refine sk .a ?_
 refine sj ?_
 refine rk 1 (.k2 (.i 5 (vt a0) .n)) ?_
 refine jo 6 (.len 1 5) (ok_len_t rfl) ?_
 refine rk 1 (.d (.k2 (.i 6 (vi (a0.length : Int)) (.i 7 (vt a1) .n)))) ?_
 refine jo 8 (.len 1 7) (ok_len_t rfl) ?_
 refine jo 9 (.bin .geq false 6 8) (n_geq (i := a0.length) (j := a1.length) rfl rfl) ?_
 refine rk 1 (.d2 (.k2 (.i 10 (vb (decide (a1.length ≤ a0.length))) .n))) ?_
 refine gj (vt a0) 11 (.mov 0) 10 true rfl ?_
 refine gj (vt a1) 12 (.mov 1) 10 true rfl ?_
 refine gv 13 (.len 1 12) 10 true rfl (fun hg => (ok_len_t rfl)) (fun hg => (.cons hg .nil)) ?_
 refine gv 14 (.sslc 11 none (some 13)) 10 true rfl (fun hg => (ok_sslc_hi (j := a1.length) rfl rfl rfl hg)) (fun hg => (.cons hg (.cons hg .nil))) ?_
 refine gj (vt a1) 15 (.mov 1) 10 true rfl ?_
 refine gk (vb ((List.take a1.length a0) == a1)) 16 (.bin .eql false 14 15) 10 true rfl (fun hg => (.cons hg (.cons hg .nil))) ?_
 refine pa 17 10 16 rfl rfl ?_
 refine jk 1 (.i 4 (vb ((decide (a1.length ≤ a0.length)) && ((List.take a1.length a0) == a1))) .n) ?_
 refine q3 ?_
 have h := si h
 subst h
 exact DoneS.ret Sees.refl rfl rfl
theorem internal_stringslite_TrimPrefix_ok (n : Nat) (a0 : Str) (a1 : Str) (r : Str) (h : internal_stringslite_TrimPrefix n a0 a1 = some r) : FnL Tryz.prog 140 [vt a0, vt a1] [] (vt r) [] := by
 dsimp only [internal_stringslite_TrimPrefix] at h
 refine fo [4] Tryz.call140 Tryz.func140 rfl ?_
 refine sk .a ?_
 refine q1 ?_
 refine sj ?_
 refine rk 2 (.k2 (.i 5 (vt a0) (.i 6 (vt a1) .n))) ?_
 refine bK h fun y1 hy1 h => ?_
 refine jc 7 [5, 6] (internal_stringslite_HasPrefix_ok n a0 a1 y1 hy1) ?_
 refine jf (.d (.k2 (.i 7 (vb ((decide (a1.length ≤ a0.length)) && ((List.take a1.length a0) == a1))) .n))) ?_
 refine tc h (fun c1 h => ?_) (fun c1 h => ?_)
 ·refine sj ?_
  refine rk 2 (.i 8 (vt a0) (.i 9 (vt a1) .n)) ?_
  refine jo 10 (.len 1 9) (ok_len_t rfl) ?_
  refine cK h fun c2 h => ?_
  refine jo 11 (.sslc 8 (some 10) none) (ok_sslc_lo (j := a1.length) rfl rfl rfl c2) ?_
  refine jk 1 (.i 4 (vt (List.drop a1.length a0)) .n) ?_
  refine q3 ?_
  have h := si h
  subst h
  exact DoneS.ret Sees.refl rfl rfl
 refine q2 ?_
 refine sk (.i 4 (vt a0) .n) ?_
 refine q3 ?_
 have h := si h
 subst h
 exact DoneS.ret Sees.refl rfl rfl
theorem strings_TrimPrefix_ok (n : Nat) (a0 : Str) (a1 : Str) (r : Str) (h : strings_TrimPrefix n a0 a1 = some r) : FnL Tryz.prog 93 [vt a0, vt a1] [] (vt r) [] := by
 dsimp only [strings_TrimPrefix] at h
 refine fo [4] Tryz.call93 Tryz.func93 rfl ?_
 refine sk .a ?_
 refine sj ?_
 refine rk 2 (.i 5 (vt a0) (.i 6 (vt a1) .n)) ?_
 refine bK h fun y1 hy1 h => ?_
 refine jc 7 [5, 6] (internal_stringslite_TrimPrefix_ok n a0 a1 y1 hy1) ?_
 refine jk 1 (.i 4 (vt y1) .n) ?_
 refine q3 ?_
 have h := si h
 subst h
 exact DoneS.ret Sees.refl rfl rfl
theorem restore_number_ok (n : Nat) (a0 : Str) (a1 : Int) (r : Int × Bool) (h : restore_number n a0 a1 = some r) : FnL Tryz.prog 40 [vt a0, vi a1] [] (.tup [vi r.1, vb r.2]) [] := by
 dsimp only [restore_number] at h
 refine fo [4, 5] Tryz.call40 Tryz.func40 rfl ?_
 refine sk .a ?_
 refine sj ?_
 refine rk 1 (.k2 (.i 9 (vt a0) .n)) ?_
 refine bK h fun y1 hy1 h => ?_
 refine jc 10 [9] (strconv_Atoi_ok n a0 y1 hy1) ?_ (by generalize y1.2 = b; cases b <;> rfl)
 refine rk 4 (.d (.k2 (.i 12 (errV 253 y1.2) (.i 6 (vi y1.1) .n)))) ?_
 refine RegJ.op (Op1.val (v := errV 253 y1.2) _ _ (cy (I0 7 (.mov 12))) rfl (ok_mov (tau_err (T := 253) (b := y1.2) (by kernel_rfl))) (.cons (xcond_err (T := 253) (b := y1.2) (by kernel_rfl)) .nil)) ?_
 refine jf (.d (.k2 (.d (.k (.i 7 (errV 253 y1.2) .n))))) ?_
 refine sj ?_
 refine rk 1 (.k4 (.i 13 (vi y1.1) .n)) ?_
 refine RegJ.op (Op1.val (v := errV 253 y1.2) _ _ (cy (I0 14 (.mov 7))) rfl (ok_mov (tau_err (T := 253) (b := y1.2) (by kernel_rfl))) (.cons (xcond_err (T := 253) (b := y1.2) (by kernel_rfl)) .nil)) ?_
 refine RegJ.op (Op1.err (T := 253) (b := y1.2) false (cy (I0 15 (.bin .eql false 14 (.c (.p .nilIface))))) (by kernel_rfl) rfl (tau_err (by kernel_rfl)) (.cons (xcond_err (T := 253) (b := y1.2) (by kernel_rfl)) (.cons rfl .nil))) ?_
 refine rn 1 [(0, vt a0), (1, vi a1), (6, vi y1.1), (13, vi y1.1), (16, vb y1.2)] [] ?_
 refine gj (vi y1.1) 17 (.mov 6) 16 true rfl ?_
 refine bK h fun y2 hy2 h => ?_
 refine gc 18 [17] 16 true rfl (fun hg => strconv_Itoa_ok n y1.1 y2 (gcall_some hy2 hg)) (fun hg => (.cons rfl (.cons hg .nil))) (fun hg => by kernel_rfl) ?_
 refine gj (vt a0) 19 (.mov 0) 16 true rfl ?_
 refine gk (vb (y2 == a0)) 20 (.bin .eql false 18 19) 16 true rfl (fun hg => (.cons hg (.cons hg .nil))) ?_
 refine pa 21 16 20 rfl rfl ?_
 refine rk 1 (.d4 (.d (.k2 (.d (.k (.i 22 (vb (y1.2 && (y2 == a0))) .n)))))) ?_
 refine gj (vt a0) 23 (.mov 0) 22 true rfl ?_
 refine bK h fun y3 hy3 h => ?_
 refine gc 24 [23, (.c (.p (.string ⟨#[45]⟩)))] 22 true rfl (fun hg => strings_TrimPrefix_ok n a0 ([45] : Str) y3 (gcall_some hy3 hg)) (fun hg => (.cons rfl (.cons hg (.cons rfl .nil)))) (fun hg => by kernel_rfl) ?_
 refine gv 25 (.len 1 24) 22 true rfl (fun hg => (ok_len_t rfl)) (fun hg => (.cons hg .nil)) ?_
 refine gj (vi a1) 26 (.mov 1) 22 true rfl ?_
 refine gk (vb (decide ((y3.length : Int) ≤ a1))) 27 (.bin .leq false 25 26) 22 true rfl (fun hg => (.cons hg (.cons hg .nil))) ?_
 refine pa 28 22 27 rfl rfl ?_
 refine jk 2 (.i 4 (vi y1.1) (.i 5 (vb ((y1.2 && (y2 == a0)) && (decide ((y3.length : Int) ≤ a1)))) .n)) ?_
 refine q3 ?_
 have h := si h
 subst h
 exact DoneS.ret Sees.refl rfl rfl
theorem restore_ParsePromise_ok (n : Nat) (a0 : Str) (r : Str × Str × Int × Int) (h : restore_ParsePromise n a0 = some r) : FnL Tryz.prog 9 [vt a0] [] (.tup [.agg [vt r.1, vt r.2.1, vi r.2.2.1], vi r.2.2.2]) [] := by
 dsimp only [restore_ParsePromise] at h
 refine FnL.ofC [.cell 2 23, .tmp 3] Tryz.call9 Tryz.func9 rfl .nil ?_ (hl := rfl)
 refine sko (.k (.i 2 (.ptr 0 0 0) .n)) [some (.row 3 [.agg [vt ([] : Str), vt ([] : Str), vi 0]])] ?_
 refine sj ?_
 refine rk 1 (.d (.k (.i 7 (vt a0) .n))) ?_
 refine bK h fun y1 hy1 h => ?_
 refine jc 8 [7, (.c (.p (.string ⟨#[32]⟩)))] (strings_Split_ok n a0 ([32] : Str) y1 hy1) ?_
 refine jk 1 (.d (.k (.i 4 (eS 1 vt y1) .n))) ?_
 refine q1 ?_
 refine sj ?_
 refine rk 1 (.k2 (.i 9 (eS 1 vt y1) .n)) ?_
 refine jo 10 (.len 0 9) (ok_len_m rfl) ?_
 refine jo 11 (.bin .neq false 10 (ki 3)) (n_neq (i := y1.length) (j := 3) rfl rfl) ?_
 refine jf (.d2 (.k2 (.i 11 (vb (!decide (y1.length = 3))) .n))) ?_
 refine tc h (fun c1 h => ?_) (fun c1 h => ?_)
 ·refine sk (.k (.i 3 (vi 7) .n)) ?_
  refine q3 ?_
  have h := si h
  subst h
  exact DoneC.ret (S' := ⟨[(2, .agg [vt ([] : Str), vt ([] : Str), vi 0]), (3, vi 7)], []⟩) [.agg [vt ([] : Str), vt ([] : Str), vi 0], vi 7] (sc [] (by decide) (by kernel_rfl) ObRen.nil rfl rfl) rfl rfl
 refine q2 ?_
 refine sj ?_
 refine rk 1 (.k2 (.i 14 (eS 1 vt y1) .n)) ?_
 refine cK h fun c2 h => ?_
 refine jo 15 (.iaddr 1 14 (ki 2)) (ok_iaddr_m (j := 2) rfl rfl rfl c2) ?_
 refine jo 16 (.load false 1 15) (ok_load_fm (v := vt (ix y1 2)) rfl c2 rfl) ?_
 refine bK h fun y2 hy2 h => ?_
 refine jc 17 [16, (ki 6)] (restore_number_ok n (ix y1 2) 6 y2 hy2) ?_
 refine jk 5 (.d3 (.k2 (.i 5 (vi y2.1) (.i 6 (vb y2.2) .n)))) ?_
 refine q1 ?_
 refine sk (.k3 (.i 21 (vb (!y2.2)) .n)) ?_
 refine tc h (fun c3 h => ?_) (fun c3 h => ?_)
 ·refine sk (.k (.i 3 (vi 7) .n)) ?_
  refine q3 ?_
  have h := si h
  subst h
  exact DoneC.ret (S' := ⟨[(2, .agg [vt ([] : Str), vt ([] : Str), vi 0]), (3, vi 7)], []⟩) [.agg [vt ([] : Str), vt ([] : Str), vi 0], vi 7] (sc [] (by decide) (by kernel_rfl) ObRen.nil rfl rfl) rfl rfl
 refine q2 ?_
 refine q1 ?_
 refine ts (.k3 .n) ?_
 refine TriE.draw (by kernel_rfl) ?_
 refine dk 1 (.i 23 (eS 1 vt y1) .a) ?_
 refine cK h fun c4 h => ?_
 refine dp 24 (.iaddr 1 23 (ki 0)) (ok_iaddr_m (j := 0) rfl rfl rfl c4) ?_
 refine dp 25 (.load false 1 24) (ok_load_fm (v := vt (ix y1 0)) rfl c4 rfl) ?_
 refine dk 1 (.i 26 (eS 1 vt y1) .a) ?_
 refine cK h fun c5 h => ?_
 refine dp 27 (.iaddr 1 26 (ki 1)) (ok_iaddr_m (j := 1) rfl rfl rfl c5) ?_
 refine dp 28 (.load false 1 27) (ok_load_fm (v := vt (ix y1 1)) rfl c5 rfl) ?_
 refine dko 4 (.i 3 (vi 0) (.i 30 (.agg [vt (ix y1 0), vt (ix y1 1), vi y2.1]) (.i 29 (vi y2.1) .a))) [some (.row 3 [.agg [vt (ix y1 0), vt (ix y1 1), vi y2.1]]), none, none, none, none, none, none, none, none, none, none] ?_
 refine dfi (ob' := [some (.row 3 [.agg [vt (ix y1 0), vt (ix y1 1), vi y2.1]])]) (.d4 (.d4 (.d (.k (.i 3 (vi 0) .n))))) [0] (.cons rfl .nil) ?_
 refine q3 ?_
 have h := si h
 subst h
 exact DoneC.ret (S' := ⟨[(2, .agg [vt (ix y1 0), vt (ix y1 1), vi y2.1]), (3, vi 0)], []⟩) [.agg [vt (ix y1 0), vt (ix y1 1), vi y2.1], vi 0] (sc [] (by decide) (by kernel_rfl) ObRen.nil rfl rfl) rfl rfl
theorem agraffebase_Cut_ok (n : Nat) (a0 : Str) (a1 : Int) (r : (List Str)) (h : agraffebase_Cut n a0 a1 = some r) : FnL Tryz.prog 41 [vt a0, vk .u8 a1] [] (eS 1 vt r) [] := by
 dsimp only [agraffebase_Cut] at h
 refine fo [4] Tryz.call41 Tryz.func41 rfl ?_
 refine sk .a ?_
 refine sk (.k2 (.i 5 .emp .n)) ?_
 refine sk (.k3 (.i 6 (vi 0) .n)) ?_
 refine TriE.seqK h (fun (v8 : (List Str)) => St.mk [(5, .own 0 0 v8.length)] [some (.row 1 (List.map vt v8))]) ?_ ?_
 ·rintro v8 h
  refine sk (.i 4 (.own 0 0 v8.length) .n) ?_
  refine q3 ?_
  have h := si h
  subst h
  exact DoneS.ret (S' := ⟨[(4, eS 1 vt v8)], []⟩) (Sees.trans (Sees.freeze 0 (fr' := [(4, eS 1 vt v8)]) (ob' := [none]) rfl (frz_row vt_frzE _) (.cons (frz_full rfl) .nil) rfl) (sc [] (by decide) (by kernel_rfl) ObRen.nil rfl rfl)) rfl rfl
 intro k2 h
 refine sk (.k4 (.i 7 (vi 0) .n)) ?_
 refine q4 ?_
 refine TriE.sees (S' := ⟨[(0, vt a0), (1, vk .u8 a1), (5, .own 0 0 ([] : List Str).length), (6, vi 0), (7, vi 0)], [some (.row 1 (List.map vt ([] : List Str)))]⟩) (Sees.trans (Sees.co (fr' := [(0, vt a0), (1, vk .u8 a1), (5, .own 0 0 0), (6, vi 0), (7, vi 0)]) (ob' := []) (.cons .same (.cons .same (.cons .own (.cons .same (.cons .same .nil))))) ObCo.nil 1) sy) ?_
 refine TriE.loopN h (fun (t : (List Str) × Nat × Nat) => match t with | (v3, v4, v5) => St.mk [(0, vt a0), (1, vk .u8 a1), (5, .own 0 0 v3.length), (6, vi v4), (7, vi v5)] [some (.row 1 (List.map vt v3))]) rfl ?_
 clear h
 rintro back ⟨v3, v4, v5⟩ h
 dsimp only [agraffebase_Cut_L1] at h
 refine q1 ?_
 refine sj ?_
 refine rk 2 (.k4 (.k (.i 8 (vi v5) (.i 9 (vt a0) .n)))) ?_
 refine jo 10 (.len 1 9) (ok_len_t rfl) ?_
 refine jo 11 (.bin .leq false 8 10) (n_leq (i := v5) (j := a0.length) rfl rfl) ?_
 refine jf (.d2 (.k4 (.k (.i 11 (vb (decide (v5 ≤ a0.length))) .n)))) ?_
 refine tc h (fun c1 h => ?_) (fun c1 h => ?_)
 ·refine q2 ?_
  refine TriE.seqK h (fun (t : Nat × (List Str)) => match t with | (v6, v7) => St.mk [(0, vt a0), (1, vk .u8 a1), (7, vi v5), (5, .own 0 0 v7.length), (6, vi v6)] [some (.row 1 (List.map vt v7))]) ?_ ?_
  ·rintro ⟨v6, v7⟩ h
   refine q6 ?_
   refine rk 1 (.k2 (.d (.k2 (.i 12 (vi v5) .n)))) ?_
   refine cK h fun c7 h => ?_
   refine jo 13 (.bin .add false 12 (ki 1)) (r_addn (i := v5) (j := 1) rfl rfl c7) ?_
   refine jk 1 (.d (.k4 (.i 7 (vi ((v5 + 1 : Nat) : Int)) .n))) ?_
   exact Vs.intro sy ⟨(v7, v6, v5 + 1), rfl, h⟩
  intro k1 h
  refine q4 ?_
  refine sj ?_
  refine rk 2 (.k4 (.k (.i 14 (vi v5) (.i 15 (vt a0) .n)))) ?_
  refine jo 16 (.len 1 15) (ok_len_t rfl) ?_
  refine jo 17 (.bin .eql false 14 16) (n_eql (i := v5) (j := a0.length) rfl rfl) ?_
  refine rk 1 (.d2 (.k4 (.k (.i 18 (vb (decide (v5 = a0.length))) .n)))) ?_
  refine gj (vt a0) 19 (.mov 0) 18 false rfl ?_
  refine gj (vi v5) 20 (.mov 7) 18 false rfl ?_
  refine cK h fun c2 h => ?_
  refine gv 21 (.sidx 19 20) 18 false rfl (fun hg => (ok_sidx_t (j := v5) rfl rfl rfl (gor c2 hg))) (fun hg => (.cons hg (.cons hg .nil))) ?_
  refine gj (vk .u8 a1) 22 (.mov 1) 18 false rfl ?_
  refine gk (vb ((((List.getD a0 v5 0).toNat : Nat) : Int) == a1)) 23 (.bin .eql false 21 22) 18 false rfl (fun hg => (.cons hg (.cons hg .nil))) ?_
  refine po 24 18 23 rfl rfl ?_
  refine jf (.d4 (.d2 (.k4 (.k (.i 24 (vb ((decide (v5 = a0.length)) || ((((List.getD a0 v5 0).toNat : Nat) : Int) == a1))) .n))))) ?_
  refine tc h (fun c3 h => ?_) (fun c3 h => ?_)
  ·refine sj ?_
   refine rk 4 (.k2 (.d2 (.k (.i 25 (.own 0 0 v3.length) (.i 26 (vt a0) (.i 27 (vi v4) (.i 28 (vi v5) .n))))))) ?_
   refine cK h fun c4 h => ?_
   refine jo 29 (.sslc 26 (some 27) (some 28)) (ok_sslc_lh (i := v4) (j := v5) rfl rfl rfl rfl rfl c4 c1) ?_
   refine rko 1 (.d (.k4 (.i 30 (.own 1 0 1) .n))) [some (.row 1 (List.map vt v3)), some (.row 1 [vt (List.take (v5 - v4) (List.drop v4 a0))])] ?_
   refine cK h fun c5 h => ?_
   refine jx 31 (.app 1 16 25 30) _ (ok_app_own (l := v3) (l2 := ([(List.take (v5 - v4) (List.drop v4 a0))] : List Str)) (e := vt) (u := .own 1 0 1) rfl rfl rfl rfl rfl c5) rfl rfl ?_
   refine jk 1 (.d (.k3 (.i 5 (.own 2 0 ((v3 ++ ([(List.take (v5 - v4) (List.drop v4 a0))] : List Str)).length)) .n))) ?_
   refine q6 ?_
   refine rk 1 (.k4 (.i 32 (vi v5) .n)) ?_
   refine cK h fun c6 h => ?_
   refine jo 33 (.bin .add false 32 (ki 1)) (r_addn (i := v5) (j := 1) rfl rfl c6) ?_
   refine jk 1 (.d (.k4 (.i 6 (vi ((v5 + 1 : Nat) : Int)) .n))) ?_
   exact Vs.intro (sc [2] (by decide) (by kernel_rfl) (obRen_row vt_frz rfl .nil) rfl rfl) ⟨(v5 + 1, (v3 ++ ([(List.take (v5 - v4) (List.drop v4 a0))] : List Str))), rfl, h⟩
  refine q2 ?_
  exact Vs.intro sy ⟨(v4, v3), rfl, h⟩
 refine q5 ?_
 exact Vs.intro sy ⟨v3, rfl, h⟩
theorem agraffebase_isDigit_ok (n : Nat) (a0 : Int) (r : Unit) (h : agraffebase_isDigit n a0 = some r) : FnL Tryz.prog 45 [vk .u8 a0] [] (vb ((decide ((48 : Int) ≤ a0)) && (decide (a0 ≤ (57 : Int))))) [] := by
 dsimp only [agraffebase_isDigit] at h
 refine fo [2] Tryz.call45 Tryz.func45 rfl ?_
 refine sk .a ?_
 refine sj ?_
 refine rk 3 (.k (.i 5 (vb (decide ((48 : Int) ≤ a0))) .n)) ?_
 refine gj (vk .u8 a0) 6 (.mov 0) 5 true rfl ?_
 refine gk (vb (decide (a0 ≤ (57 : Int)))) 7 (.bin .leq false 6 (.c (.p (.int .u8 57)))) 5 true rfl (fun hg => (.cons hg (.cons rfl .nil))) ?_
 refine pa 8 5 7 rfl rfl ?_
 refine jk 1 (.i 2 (vb ((decide ((48 : Int) ≤ a0)) && (decide (a0 ≤ (57 : Int))))) .n) ?_
 refine q3 ?_
 have h := si h
 subst h
 exact DoneS.ret Sees.refl rfl rfl
theorem agraffebase_Abs_ok (n : Nat) (a0 : Int) (r : Int) (h : agraffebase_Abs n a0 = some r) : FnL Tryz.prog 94 [vi a0] [] (vi r) [] := by
 dsimp only [agraffebase_Abs] at h
 refine fo [2] Tryz.call94 Tryz.func94 rfl ?_
 refine sk .a ?_
 refine q1 ?_
 refine sk (.k (.i 4 (vb (decide (a0 < (0 : Int)))) .n)) ?_
 refine tc h (fun c1 h => ?_) (fun c1 h => ?_)
 ·refine sj ?_
  refine rk 1 (.i 5 (vi a0) .n) ?_
  refine cK h fun c2 h => ?_
  refine jo 6 (.un .neg 5) (r_neg rfl c2) ?_
  refine jk 1 (.i 2 (vi (-a0)) .n) ?_
  refine q3 ?_
  have h := si h
  subst h
  exact DoneS.ret Sees.refl rfl rfl
 refine q2 ?_
 refine sk (.i 2 (vi a0) .n) ?_
 refine q3 ?_
 have h := si h
 subst h
 exact DoneS.ret Sees.refl rfl rfl
theorem agraffebase_Decimal_ok (n : Nat) (a0 : Int) (r : Str) (h : agraffebase_Decimal n a0 = some r) : FnL Tryz.prog 43 [vi a0] [] (vt r) [] := by
 dsimp only [agraffebase_Decimal] at h
 refine fo [2] Tryz.call43 Tryz.func43 rfl ?_
 refine sk .a ?_
 refine q1 ?_
 refine sk (.k (.i 6 (vb (a0 == (0 : Int))) .n)) ?_
 refine tc h (fun c1 h => ?_) (fun c1 h => ?_)
 ·refine sk (.i 2 (vt ([48] : Str)) .n) ?_
  refine q3 ?_
  have h := si h
  subst h
  exact DoneS.ret Sees.refl rfl rfl
 refine q2 ?_
 refine sk (.k (.i 3 (vt ([] : Str)) .n)) ?_
 refine TriE.seqK h (fun (v5 : Str) => St.mk [(0, vi a0), (3, vt v5)] []) ?_ ?_
 ·rintro v5 h
  refine q1 ?_
  refine sk (.d (.k (.i 22 (vb (decide (a0 < (0 : Int)))) .n))) ?_
  refine tc h (fun c7 h => ?_) (fun c7 h => ?_)
  ·refine sj ?_
   refine rk 1 (.i 23 (vt v5) .n) ?_
   refine cK h fun c8 h => ?_
   refine jo 24 (.bin .add false (.c (.p (.string ⟨#[45]⟩))) 23) (ok_sadd_t rfl rfl c8) ?_
   refine jk 1 (.i 2 (vt (([45] : Str) ++ v5)) .n) ?_
   refine q3 ?_
   have h := si h
   subst h
   exact DoneS.ret Sees.refl rfl rfl
  refine q2 ?_
  refine sk (.i 2 (vt v5) .n) ?_
  refine q3 ?_
  have h := si h
  subst h
  exact DoneS.ret Sees.refl rfl rfl
 intro k1 h
 refine sk (.k2 (.i 4 (vi a0) .n)) ?_
 refine q4 ?_
 refine TriE.loopN h (fun (t : Str × Int) => match t with | (v2, v3) => St.mk [(0, vi a0), (3, vt v2), (4, vi v3)] []) rfl ?_
 clear h
 rintro back ⟨v2, v3⟩ h
 dsimp only [agraffebase_Decimal_L1] at h
 refine q1 ?_
 refine sk (.k3 (.i 9 (vb (v3 != (0 : Int))) .n)) ?_
 refine tc h (fun c2 h => ?_) (fun c2 h => ?_)
 ·refine q2 ?_
  refine q7 ?_
  refine q6 ?_
  refine rk 1 (.k3 (.i 12 (vi v3) .n)) ?_
  refine cK h fun c3 h => ?_
  refine jo 13 (.bin .rem false 12 (ki 10)) (r_rem rfl rfl c3) ?_
  refine bK h fun y4 hy4 h => ?_
  refine jc 14 [13] (agraffebase_Abs_ok n (Int.tmod v3 10) y4 hy4) ?_
  refine cK h fun c4 h => ?_
  refine jo 15 (.bin .add false (ki 48) 14) (r_add rfl rfl c4) ?_
  refine rko 4 (.d3 (.k (.d (.k (.i 18 (vt ([UInt8.ofNat (Int.toNat (IntKind.u8.wrap (48 + y4)))] : Str)) (.i 19 (vt v2) .n)))))) [some (.row 1 [vk .u8 (IntKind.u8.wrap (48 + y4))])] ?_
  refine cK h fun c5 h => ?_
  refine jo 20 (.bin .add false 18 19) (ok_sadd_t rfl rfl c5) ?_
  refine jk 1 (.d (.k2 (.i 3 (vt (([UInt8.ofNat (Int.toNat (IntKind.u8.wrap (48 + y4)))] : Str) ++ v2)) .n))) ?_
  refine q6 ?_
  refine rk 1 (.k (.d (.k (.i 10 (vi v3) .n)))) ?_
  refine cK h fun c6 h => ?_
  refine jo 11 (.bin .quo false 10 (ki 10)) (r_quo rfl rfl c6) ?_
  refine jk 1 (.d (.k2 (.i 4 (vi (Int.tdiv v3 10)) .n))) ?_
  exact Vs.intro (sc [] (by decide) (by kernel_rfl) ObRen.nil rfl rfl) ⟨((([UInt8.ofNat (Int.toNat (IntKind.u8.wrap (48 + y4)))] : Str) ++ v2), Int.tdiv v3 10), rfl, h⟩
 refine q5 ?_
 exact Vs.intro sy ⟨v2, rfl, h⟩
set_option maxHeartbeats 1000000 in
theorem agraffebase_Number_ok (n : Nat) (a0 : Str) (a1 : Int) (r : Int × Bool) (h : agraffebase_Number n a0 a1 = some r) : FnL Tryz.prog 42 [vt a0, vi a1] [] (.tup [vi r.1, vb r.2]) [] := by
 dsimp only [agraffebase_Number] at h
 refine fo [4, 5] Tryz.call42 Tryz.func42 rfl ?_
 refine sk .a ?_
 refine sk (.k2 (.i 6 (vi 0) (.i 7 (vi 0) .n))) ?_
 refine TriE.seqK h (fun (v1 : Int) => St.mk [(0, vt a0), (1, vi a1), (6, vi 0), (7, vi v1)] []) ?_ ?_
 ·rintro v1 h
  refine q1 ?_
  refine sj ?_
  refine rk 1 (.k4 (.i 17 (vt a0) .n)) ?_
  refine jo 18 (.len 1 17) (ok_len_t rfl) ?_
  refine rk 3 (.d (.k4 (.i 21 (vb ((a0.length : Int) == v1)) .n))) ?_
  refine gj (vt a0) 22 (.mov 0) 21 false rfl ?_
  refine gv 23 (.len 1 22) 21 false rfl (fun hg => (ok_len_t rfl)) (fun hg => (.cons hg .nil)) ?_
  refine gj (vi v1) 24 (.mov 7) 21 false rfl ?_
  refine gj (vi a1) 25 (.mov 1) 21 false rfl ?_
  refine cK h fun c2 h => ?_
  refine gv 26 (.bin .add false 24 25) 21 false rfl (fun hg => (r_add rfl rfl (gor c2 hg))) (fun hg => (.cons hg (.cons hg .nil))) ?_
  refine gk (vb (decide ((v1 + a1) < (a0.length : Int)))) 27 (.bin .gtr false 23 26) 21 false rfl (fun hg => (.cons hg (.cons hg .nil))) ?_
  refine po 28 21 27 rfl rfl ?_
  refine rk 1 (.d4 (.d3 (.k4 (.i 29 (vb (((a0.length : Int) == v1) || (decide ((v1 + a1) < (a0.length : Int))))) .n)))) ?_
  refine gj (vi a1) 30 (.mov 1) 29 false rfl ?_
  refine gk (vb (decide ((18 : Int) < a1))) 31 (.bin .gtr false 30 (ki 18)) 29 false rfl (fun hg => (.cons hg (.cons rfl .nil))) ?_
  refine po 32 29 31 rfl rfl ?_
  refine jf (.d3 (.k (.d (.k2 (.i 32 (vb ((((a0.length : Int) == v1) || (decide ((v1 + a1) < (a0.length : Int)))) || (decide ((18 : Int) < a1)))) .n))))) ?_
  refine tc h (fun c3 h => ?_) (fun c3 h => ?_)
  ·refine sk (.i 4 (vi 0) (.i 5 (vb false) .n)) ?_
   refine q3 ?_
   have h := si h
   subst h
   exact DoneS.ret Sees.refl rfl rfl
  refine q2 ?_
  refine TriE.seqK h (fun (v6 : Int) => St.mk [(0, vt a0), (6, vi v6), (7, vi v1)] []) ?_ ?_
  ·rintro v6 h
   refine TriE.seqK h (fun (v7 : Int) => St.mk [(0, vt a0), (6, vi v7)] []) ?_ ?_
   ·rintro v7 h
    refine sj ?_
    refine rk 2 (.k (.i 57 (vi v7) (.i 58 (vi v7) .n))) ?_
    refine bK h fun y8 hy8 h => ?_
    refine jc 59 [58] (agraffebase_Decimal_ok n v7 y8 hy8) ?_
    refine jk 4 (.i 4 (vi v7) (.i 5 (vb (y8 == a0)) .n)) ?_
    refine q3 ?_
    have h := si h
    subst h
    exact DoneS.ret Sees.refl rfl rfl
   intro k3 h
   refine sk (.k2 (.i 54 (vb (v1 == (1 : Int))) .n)) ?_
   refine tc h (fun c11 h => ?_) (fun c11 h => ?_)
   ·refine q6 ?_
    refine rk 1 (.k (.i 55 (vi v6) .n)) ?_
    refine cK h fun c12 h => ?_
    refine jo 56 (.un .neg 55) (r_neg rfl c12) ?_
    refine jk 1 (.d (.k (.i 6 (vi (-v6)) .n))) ?_
    exact Vs.intro Sees.refl ⟨(-v6), rfl, h⟩
   refine q2 ?_
   exact Vs.intro sy ⟨v6, rfl, h⟩
  intro k2 h
  refine sk (.k3 (.i 8 (vi v1) .n)) ?_
  refine q4 ?_
  refine TriE.loopN h (fun (t : Int × Int) => match t with | (v3, v4) => St.mk [(0, vt a0), (6, vi v3), (7, vi v1), (8, vi v4)] []) rfl ?_
  clear h
  rintro back ⟨v3, v4⟩ h
  dsimp only [agraffebase_Number_L1] at h
  refine q1 ?_
  refine sj ?_
  refine rk 2 (.k4 (.i 34 (vi v4) (.i 35 (vt a0) .n))) ?_
  refine jo 36 (.len 1 35) (ok_len_t rfl) ?_
  refine jk 1 (.d (.k4 (.i 37 (vb (decide (v4 < (a0.length : Int)))) .n))) ?_
  refine tc h (fun c4 h => ?_) (fun c4 h => ?_)
  ·refine q2 ?_
   refine q7 ?_
   refine q1 ?_
   refine sj ?_
   refine rk 2 (.k4 (.i 40 (vt a0) (.i 41 (vi v4) .n))) ?_
   refine cK h fun c5 h => ?_
   refine jo 42 (.sidx 40 41) (ok_sidx_t (j := v4.toNat) rfl rfl (inB_to c5) (inB_lt c5)) ?_
   refine bK h fun y5 hy5 h => ?_
   refine jc 43 [42] (agraffebase_isDigit_ok n (((List.getD a0 v4.toNat 0).toNat : Nat) : Int) y5 hy5) ?_
   refine jk 1 (.d2 (.k4 (.i 44 (vb (!((decide ((48 : Int) ≤ (((List.getD a0 v4.toNat 0).toNat : Nat) : Int))) && (decide ((((List.getD a0 v4.toNat 0).toNat : Nat) : Int) ≤ (57 : Int)))))) .n))) ?_
   refine tc h (fun c6 h => ?_) (fun c6 h => ?_)
   ·refine sk (.i 4 (vi 0) (.i 5 (vb false) .n)) ?_
    refine q3 ?_
    have h := si h
    subst h
    exact DoneS.ret Sees.refl rfl rfl
   refine q2 ?_
   refine q6 ?_
   refine rk 1 (.k (.d (.k2 (.i 45 (vi v3) .n)))) ?_
   refine cK h fun c7 h => ?_
   refine jo 46 (.bin .mul false (ki 10) 45) (r_mul rfl rfl c7) ?_
   refine rk 2 (.d (.k3 (.i 46 (vi (10 * v3)) (.i 47 (vt a0) (.i 48 (vi v4) .n))))) ?_
   refine jo 49 (.sidx 47 48) (ok_sidx_t (j := v4.toNat) rfl rfl (inB_to c5) (inB_lt c5)) ?_
   refine rk 1 (.d (.k4 (.i 50 (vk .u8 (IntKind.u8.wrap ((((List.getD a0 v4.toNat 0).toNat : Nat) : Int) - 48))) .n))) ?_
   refine cK h fun c8 h => ?_
   refine jo 51 (.conv .i64 50) (ok_conv64 rfl c8) ?_
   refine cK h fun c9 h => ?_
   refine jo 52 (.bin .add false 46 51) (r_add rfl rfl c9) ?_
   refine jk 1 (.d2 (.k3 (.i 6 (vi ((10 * v3) + (IntKind.u8.wrap ((((List.getD a0 v4.toNat 0).toNat : Nat) : Int) - 48)))) .n))) ?_
   refine q6 ?_
   refine rk 1 (.k2 (.d (.k (.i 38 (vi v4) .n)))) ?_
   refine cK h fun c10 h => ?_
   refine jo 39 (.bin .add false 38 (ki 1)) (r_add rfl rfl c10) ?_
   refine jk 1 (.d (.k3 (.i 8 (vi (v4 + 1)) .n))) ?_
   exact Vs.intro sy ⟨((10 * v3) + (IntKind.u8.wrap ((((List.getD a0 v4.toNat 0).toNat : Nat) : Int) - 48)), v4 + 1), rfl, h⟩
  refine q5 ?_
  exact Vs.intro sy ⟨v3, rfl, h⟩
 intro k1 h
 refine sj ?_
 refine rk 1 (.k4 (.i 9 (vt a0) .n)) ?_
 refine jo 10 (.len 1 9) (ok_len_t rfl) ?_
 refine jo 11 (.bin .gtr false 10 (ki 0)) (n_gtr (i := a0.length) (j := 0) rfl rfl) ?_
 refine rk 1 (.d2 (.k4 (.i 12 (vb (decide (0 < a0.length))) .n))) ?_
 refine gj (vt a0) 13 (.mov 0) 12 true rfl ?_
 refine gv 14 (.sidx 13 (ki 0)) 12 true rfl (fun hg => (ok_sidx_t (j := 0) rfl rfl rfl hg)) (fun hg => (.cons hg (.cons rfl .nil))) ?_
 refine gk (vb ((((List.getD a0 0 0).toNat : Nat) : Int) == (45 : Int))) 15 (.bin .eql false 14 (.c (.p (.int .u8 45)))) 12 true rfl (fun hg => (.cons hg (.cons rfl .nil))) ?_
 refine pa 16 12 15 rfl rfl ?_
 refine jf (.d4 (.k4 (.i 16 (vb ((decide (0 < a0.length)) && ((((List.getD a0 0 0).toNat : Nat) : Int) == (45 : Int)))) .n))) ?_
 refine tc h (fun c1 h => ?_) (fun c1 h => ?_)
 ·refine tk (.k3 (.i 7 (vi 1) .n)) ?_
  exact Vs.intro Sees.refl ⟨1, rfl, h⟩
 refine q2 ?_
 exact Vs.intro sy ⟨0, rfl, h⟩
theorem agrafferef08_ParsePromise_ok (n : Nat) (a0 : Str) (r : Str × Str × Int × Int) (h : agrafferef08_ParsePromise n a0 = some r) : FnL Tryz.prog 10 [vt a0] [] (.tup [.agg [vt r.1, vt r.2.1, vi r.2.2.1], vi r.2.2.2]) [] := by
 dsimp only [agrafferef08_ParsePromise] at h
 refine FnL.ofC [.cell 2 23, .tmp 3] Tryz.call10 Tryz.func10 rfl .nil ?_ (hl := rfl)
 refine sko (.k (.i 2 (.ptr 0 0 0) .n)) [some (.row 3 [.agg [vt ([] : Str), vt ([] : Str), vi 0]])] ?_
 refine sj ?_
 refine rk 1 (.d (.k (.i 7 (vt a0) .n))) ?_
 refine bK h fun y1 hy1 h => ?_
 refine jc 8 [7, (.c (.p (.int .u8 32)))] (agraffebase_Cut_ok n a0 32 y1 hy1) ?_
 refine jk 1 (.d (.k (.i 4 (eS 1 vt y1) .n))) ?_
 refine q1 ?_
 refine sj ?_
 refine rk 1 (.k2 (.i 9 (eS 1 vt y1) .n)) ?_
 refine jo 10 (.len 0 9) (ok_len_m rfl) ?_
 refine jo 11 (.bin .neq false 10 (ki 3)) (n_neq (i := y1.length) (j := 3) rfl rfl) ?_
 refine jf (.d2 (.k2 (.i 11 (vb (!decide (y1.length = 3))) .n))) ?_
 refine tc h (fun c1 h => ?_) (fun c1 h => ?_)
 ·refine sk (.k (.i 3 (vi 7) .n)) ?_
  refine q3 ?_
  have h := si h
  subst h
  exact DoneC.ret (S' := ⟨[(2, .agg [vt ([] : Str), vt ([] : Str), vi 0]), (3, vi 7)], []⟩) [.agg [vt ([] : Str), vt ([] : Str), vi 0], vi 7] (sc [] (by decide) (by kernel_rfl) ObRen.nil rfl rfl) rfl rfl
 refine q2 ?_
 refine sj ?_
 refine rk 1 (.k2 (.i 14 (eS 1 vt y1) .n)) ?_
 refine cK h fun c2 h => ?_
 refine jo 15 (.iaddr 1 14 (ki 2)) (ok_iaddr_m (j := 2) rfl rfl rfl c2) ?_
 refine jo 16 (.load false 1 15) (ok_load_fm (v := vt (ix y1 2)) rfl c2 rfl) ?_
 refine bK h fun y2 hy2 h => ?_
 refine jc 17 [16, (ki 6)] (agraffebase_Number_ok n (ix y1 2) 6 y2 hy2) ?_
 refine jk 5 (.d3 (.k2 (.i 5 (vi y2.1) (.i 6 (vb y2.2) .n)))) ?_
 refine q1 ?_
 refine sk (.k3 (.i 21 (vb (!y2.2)) .n)) ?_
 refine tc h (fun c3 h => ?_) (fun c3 h => ?_)
 ·refine sk (.k (.i 3 (vi 7) .n)) ?_
  refine q3 ?_
  have h := si h
  subst h
  exact DoneC.ret (S' := ⟨[(2, .agg [vt ([] : Str), vt ([] : Str), vi 0]), (3, vi 7)], []⟩) [.agg [vt ([] : Str), vt ([] : Str), vi 0], vi 7] (sc [] (by decide) (by kernel_rfl) ObRen.nil rfl rfl) rfl rfl
 refine q2 ?_
 refine q1 ?_
 refine ts (.k3 .n) ?_
 refine TriE.draw (by kernel_rfl) ?_
 refine dk 1 (.i 23 (eS 1 vt y1) .a) ?_
 refine cK h fun c4 h => ?_
 refine dp 24 (.iaddr 1 23 (ki 0)) (ok_iaddr_m (j := 0) rfl rfl rfl c4) ?_
 refine dp 25 (.load false 1 24) (ok_load_fm (v := vt (ix y1 0)) rfl c4 rfl) ?_
 refine dk 1 (.i 26 (eS 1 vt y1) .a) ?_
 refine cK h fun c5 h => ?_
 refine dp 27 (.iaddr 1 26 (ki 1)) (ok_iaddr_m (j := 1) rfl rfl rfl c5) ?_
 refine dp 28 (.load false 1 27) (ok_load_fm (v := vt (ix y1 1)) rfl c5 rfl) ?_
 refine dko 4 (.i 3 (vi 0) (.i 30 (.agg [vt (ix y1 0), vt (ix y1 1), vi y2.1]) (.i 29 (vi y2.1) .a))) [some (.row 3 [.agg [vt (ix y1 0), vt (ix y1 1), vi y2.1]]), none, none, none, none, none, none, none, none, none, none] ?_
 refine dfi (ob' := [some (.row 3 [.agg [vt (ix y1 0), vt (ix y1 1), vi y2.1]])]) (.d4 (.d4 (.d (.k (.i 3 (vi 0) .n))))) [0] (.cons rfl .nil) ?_
 refine q3 ?_
 have h := si h
 subst h
 exact DoneC.ret (S' := ⟨[(2, .agg [vt (ix y1 0), vt (ix y1 1), vi y2.1]), (3, vi 0)], []⟩) [.agg [vt (ix y1 0), vt (ix y1 1), vi y2.1], vi 0] (sc [] (by decide) (by kernel_rfl) ObRen.nil rfl rfl) rfl rfl
theorem agrafferef08_FormatPromise_ok (n : Nat) (a0 : PartPromise) (r : Str) (h : agrafferef08_FormatPromise n a0 = some r) : FnL Tryz.prog 11 [.agg [vt a0.Instrument, vt a0.Part, vi a0.Count]] [] (vt r) [] := by
 dsimp only [agrafferef08_FormatPromise] at h
 refine fo [2] Tryz.call11 Tryz.func11 rfl ?_
 refine sko (.i 1 (.ptr 0 0 0) .n) [some (.row 3 [.agg [vt a0.Instrument, vt a0.Part, vi a0.Count]])] ?_
 refine q1 ?_
 refine ts .a ?_
 refine TriE.draw (by kernel_rfl) ?_
 refine dk 2 (.i 4 (vt a0.Instrument) (.i 3 (.ptr 0 0 0) .a)) ?_
 refine cK h fun c1 h => ?_
 refine dp 5 (.bin .add false 4 (.c (.p (.string ⟨#[32]⟩)))) (ok_sadd_t rfl rfl c1) ?_
 refine dk 2 (.i 7 (vt a0.Part) (.i 6 (.ptr 0 0 1) .a)) ?_
 refine cK h fun c2 h => ?_
 refine dp 8 (.bin .add false 5 7) (ok_sadd_t rfl rfl c2) ?_
 refine cK h fun c3 h => ?_
 refine dp 9 (.bin .add false 8 (.c (.p (.string ⟨#[32]⟩)))) (ok_sadd_t rfl rfl c3) ?_
 refine dk 2 (.i 11 (vi a0.Count) (.i 10 (.ptr 0 0 2) .a)) ?_
 refine bK h fun y1 hy1 h => ?_
 refine dc (vt y1) 0 12 [11] (agraffebase_Decimal_ok n a0.Count y1 hy1) [] rfl ObsRen.nil ObsRen.nil rfl (.inr ⟨rfl, rfl⟩) ?_
 refine cK h fun c4 h => ?_
 refine dp 13 (.bin .add false 9 12) (ok_sadd_t rfl rfl c4) ?_
 refine dk 1 (.i 2 (vt ((((a0.Instrument ++ ([32] : Str)) ++ a0.Part) ++ ([32] : Str)) ++ y1)) .a) ?_
 refine dfi (.k .n) [] ObRen.nil ?_
 refine q3 ?_
 have h := si h
 subst h
 exact DoneS.ret Sees.refl rfl rfl
theorem agraffebase_isLetter_ok (n : Nat) (a0 : Int) (r : Unit) (h : agraffebase_isLetter n a0 = some r) : FnL Tryz.prog 44 [vk .u8 a0] [] (vb (((decide ((97 : Int) ≤ a0)) && (decide (a0 ≤ (122 : Int)))) || ((decide ((65 : Int) ≤ a0)) && (decide (a0 ≤ (90 : Int)))))) [] := by
 dsimp only [agraffebase_isLetter] at h
 refine fo [2] Tryz.call44 Tryz.func44 rfl ?_
 refine sk .a ?_
 refine sj ?_
 refine rk 3 (.k (.i 5 (vb (decide ((97 : Int) ≤ a0))) .n)) ?_
 refine gj (vk .u8 a0) 6 (.mov 0) 5 true rfl ?_
 refine gk (vb (decide (a0 ≤ (122 : Int)))) 7 (.bin .leq false 6 (.c (.p (.int .u8 122)))) 5 true rfl (fun hg => (.cons hg (.cons rfl .nil))) ?_
 refine pa 8 5 7 rfl rfl ?_
 refine rk 1 (.d3 (.k (.i 9 (vb ((decide ((97 : Int) ≤ a0)) && (decide (a0 ≤ (122 : Int))))) .n))) ?_
 refine gj (vk .u8 a0) 10 (.mov 0) 9 false rfl ?_
 refine gk (vb (decide ((65 : Int) ≤ a0))) 11 (.bin .geq false 10 (.c (.p (.int .u8 65)))) 9 false rfl (fun hg => (.cons hg (.cons rfl .nil))) ?_
 refine gk (vb (decide ((65 : Int) ≤ a0))) 12 (.mov 11) 9 false rfl (fun hg => (.cons hg .nil)) ?_
 refine gj (vk .u8 a0) 13 (.mov 0) 12 true rfl ?_
 refine gk (vb (decide (a0 ≤ (90 : Int)))) 14 (.bin .leq false 13 (.c (.p (.int .u8 90)))) 12 true rfl (fun hg => (.cons hg (.cons rfl .nil))) ?_
 refine RegJ.op (Op1.andg (g := !((decide ((97 : Int) ≤ a0)) && (decide (a0 ≤ (122 : Int))))) (cy (IG 15 (.pick 12 14 (.c (.p (.bool false)))) 9 false)) rfl rfl rfl (fun hg => by first | exact hokA2 hg | exact hokA3 hg | exact hokA1 | exact hokA0 | (rw [hg]; simp) | simp_all)) ?_
 refine po 16 9 15 rfl rfl ?_
 refine jk 1 (.i 2 (vb (((decide ((97 : Int) ≤ a0)) && (decide (a0 ≤ (122 : Int)))) || ((decide ((65 : Int) ≤ a0)) && (decide (a0 ≤ (90 : Int)))))) .n) ?_
 refine q3 ?_
 have h := si h
 subst h
 exact DoneS.ret Sees.refl rfl rfl
set_option maxHeartbeats 1000000 in
theorem agraffebase_IsName_ok (n : Nat) (a0 : Str) (r : Bool) (h : agraffebase_IsName n a0 = some r) : FnL Tryz.prog 12 [vt a0] [] (vb r) [] := by
 dsimp only [agraffebase_IsName] at h
 refine fo [2] Tryz.call12 Tryz.func12 rfl ?_
 refine sk .a ?_
 refine q1 ?_
 refine sj ?_
 refine rk 1 (.k (.i 4 (vt a0) .n)) ?_
 refine jo 5 (.len 1 4) (ok_len_t rfl) ?_
 refine jo 6 (.bin .eql false 5 (ki 0)) (n_eql (i := a0.length) (j := 0) rfl rfl) ?_
 refine rk 1 (.d2 (.k (.i 7 (vb (decide (a0.length = 0))) .n))) ?_
 refine gj (vt a0) 8 (.mov 0) 7 false rfl ?_
 refine gv 9 (.len 1 8) 7 false rfl (fun hg => (ok_len_t rfl)) (fun hg => (.cons hg .nil)) ?_
 refine gv 10 (.bin .gtr false 9 (ki 12)) 7 false rfl (fun hg => (n_gtr (i := a0.length) (j := 12) rfl rfl)) (fun hg => (.cons hg (.cons rfl .nil))) ?_
 refine po 11 7 10 rfl rfl ?_
 refine rk 1 (.d4 (.k (.i 12 (vb ((decide (a0.length = 0)) || (decide (12 < a0.length)))) .n))) ?_
 refine gj (vt a0) 13 (.mov 0) 12 false rfl ?_
 refine cK h fun c1 h => ?_
 refine gv 14 (.sidx 13 (ki 0)) 12 false rfl (fun hg => (ok_sidx_t (j := 0) rfl rfl rfl (gor c1 hg))) (fun hg => (.cons hg (.cons rfl .nil))) ?_
 refine bK h fun y1 hy1 h => ?_
 refine gc 15 [14] 12 false rfl (fun hg => agraffebase_isLetter_ok n (((List.getD a0 0 0).toNat : Nat) : Int) y1 (gcall_some hy1 hg)) (fun hg => (.cons rfl (.cons hg .nil))) (fun hg => by kernel_rfl) ?_
 refine gk (vb (!(((decide ((97 : Int) ≤ (((List.getD a0 0 0).toNat : Nat) : Int))) && (decide ((((List.getD a0 0 0).toNat : Nat) : Int) ≤ (122 : Int)))) || ((decide ((65 : Int) ≤ (((List.getD a0 0 0).toNat : Nat) : Int))) && (decide ((((List.getD a0 0 0).toNat : Nat) : Int) ≤ (90 : Int))))))) 16 (.un .not 15) 12 false rfl (fun hg => (.cons hg .nil)) ?_
 refine po 17 12 16 rfl rfl ?_
 refine jf (.d4 (.d (.k (.i 17 (vb (((decide (a0.length = 0)) || (decide (12 < a0.length))) || (!(((decide ((97 : Int) ≤ (((List.getD a0 0 0).toNat : Nat) : Int))) && (decide ((((List.getD a0 0 0).toNat : Nat) : Int) ≤ (122 : Int)))) || ((decide ((65 : Int) ≤ (((List.getD a0 0 0).toNat : Nat) : Int))) && (decide ((((List.getD a0 0 0).toNat : Nat) : Int) ≤ (90 : Int)))))))) .n)))) ?_
 refine tc h (fun c2 h => ?_) (fun c2 h => ?_)
 ·refine sk (.i 2 (vb false) .n) ?_
  refine q3 ?_
  have h := si h
  subst h
  exact DoneS.ret Sees.refl rfl rfl
 refine q2 ?_
 refine TriE.seqK h (fun (_ : Unit) => St.mk [] []) ?_ ?_
 ·rintro ⟨⟩ h
  refine sk (.i 2 (vb true) .n) ?_
  refine q3 ?_
  have h := si h
  subst h
  exact DoneS.ret Sees.refl rfl rfl
 intro k1 h
 refine sk (.k (.i 3 (vi 0) .n)) ?_
 refine q4 ?_
 refine ts (.k (.i 3 (vi 0) .n)) ?_
 refine TriE.loopN h (fun (v4 : Nat) => St.mk [(0, vt a0), (3, vi v4)] []) rfl ?_
 clear h
 rintro back v4 h
 dsimp only [agraffebase_IsName_L1] at h
 refine q1 ?_
 refine sj ?_
 refine rk 2 (.k2 (.i 18 (vi v4) (.i 19 (vt a0) .n))) ?_
 refine jo 20 (.len 1 19) (ok_len_t rfl) ?_
 refine jo 21 (.bin .lss false 18 20) (n_lss (i := v4) (j := a0.length) rfl rfl) ?_
 refine jf (.d2 (.k2 (.i 21 (vb (decide (v4 < a0.length))) .n))) ?_
 refine tc h (fun c3 h => ?_) (fun c3 h => ?_)
 ·refine q2 ?_
  refine q7 ?_
  refine sj ?_
  refine rk 2 (.k2 (.i 24 (vt a0) (.i 25 (vi v4) .n))) ?_
  refine jo 26 (.sidx 24 25) (ok_sidx_t (j := v4) rfl rfl rfl c3) ?_
  refine bK h fun y5 hy5 h => ?_
  refine jc 27 [26] (agraffebase_isLetter_ok n (((List.getD a0 v4 0).toNat : Nat) : Int) y5 hy5) ?_
  refine rk 2 (.d2 (.k2 (.i 29 (vb (!(((decide ((97 : Int) ≤ (((List.getD a0 v4 0).toNat : Nat) : Int))) && (decide ((((List.getD a0 v4 0).toNat : Nat) : Int) ≤ (122 : Int)))) || ((decide ((65 : Int) ≤ (((List.getD a0 v4 0).toNat : Nat) : Int))) && (decide ((((List.getD a0 v4 0).toNat : Nat) : Int) ≤ (90 : Int))))))) .n))) ?_
  refine gj (vt a0) 30 (.mov 0) 29 true rfl ?_
  refine gj (vi v4) 31 (.mov 3) 29 true rfl ?_
  refine gv 32 (.sidx 30 31) 29 true rfl (fun hg => (ok_sidx_t (j := v4) rfl rfl rfl c3)) (fun hg => (.cons hg (.cons hg .nil))) ?_
  refine bK h fun y6 hy6 h => ?_
  refine gc 33 [32] 29 true rfl (fun hg => agraffebase_isDigit_ok n (((List.getD a0 v4 0).toNat : Nat) : Int) y6 (gcall_some hy6 hg)) (fun hg => (.cons rfl (.cons hg .nil))) (fun hg => by kernel_rfl) ?_
  refine gk (vb (!((decide ((48 : Int) ≤ (((List.getD a0 v4 0).toNat : Nat) : Int))) && (decide ((((List.getD a0 v4 0).toNat : Nat) : Int) ≤ (57 : Int)))))) 34 (.un .not 33) 29 true rfl (fun hg => (.cons hg .nil)) ?_
  refine pa 35 29 34 rfl rfl ?_
  refine rk 1 (.d4 (.d2 (.k2 (.i 30 (.cond (!(((decide ((97 : Int) ≤ (((List.getD a0 v4 0).toNat : Nat) : Int))) && (decide ((((List.getD a0 v4 0).toNat : Nat) : Int) ≤ (122 : Int)))) || ((decide ((65 : Int) ≤ (((List.getD a0 v4 0).toNat : Nat) : Int))) && (decide ((((List.getD a0 v4 0).toNat : Nat) : Int) ≤ (90 : Int)))))) (vt a0)) (.i 31 (.cond (!(((decide ((97 : Int) ≤ (((List.getD a0 v4 0).toNat : Nat) : Int))) && (decide ((((List.getD a0 v4 0).toNat : Nat) : Int) ≤ (122 : Int)))) || ((decide ((65 : Int) ≤ (((List.getD a0 v4 0).toNat : Nat) : Int))) && (decide ((((List.getD a0 v4 0).toNat : Nat) : Int) ≤ (90 : Int)))))) (vi v4)) (.i 32 (.cond (!(((decide ((97 : Int) ≤ (((List.getD a0 v4 0).toNat : Nat) : Int))) && (decide ((((List.getD a0 v4 0).toNat : Nat) : Int) ≤ (122 : Int)))) || ((decide ((65 : Int) ≤ (((List.getD a0 v4 0).toNat : Nat) : Int))) && (decide ((((List.getD a0 v4 0).toNat : Nat) : Int) ≤ (90 : Int)))))) (vk .u8 (((List.getD a0 v4 0).toNat : Nat) : Int))) (.i 33 (.cond (!(((decide ((97 : Int) ≤ (((List.getD a0 v4 0).toNat : Nat) : Int))) && (decide ((((List.getD a0 v4 0).toNat : Nat) : Int) ≤ (122 : Int)))) || ((decide ((65 : Int) ≤ (((List.getD a0 v4 0).toNat : Nat) : Int))) && (decide ((((List.getD a0 v4 0).toNat : Nat) : Int) ≤ (90 : Int)))))) (vb ((decide ((48 : Int) ≤ (((List.getD a0 v4 0).toNat : Nat) : Int))) && (decide ((((List.getD a0 v4 0).toNat : Nat) : Int) ≤ (57 : Int)))))) (.i 34 (.cond (!(((decide ((97 : Int) ≤ (((List.getD a0 v4 0).toNat : Nat) : Int))) && (decide ((((List.getD a0 v4 0).toNat : Nat) : Int) ≤ (122 : Int)))) || ((decide ((65 : Int) ≤ (((List.getD a0 v4 0).toNat : Nat) : Int))) && (decide ((((List.getD a0 v4 0).toNat : Nat) : Int) ≤ (90 : Int)))))) (vb (!((decide ((48 : Int) ≤ (((List.getD a0 v4 0).toNat : Nat) : Int))) && (decide ((((List.getD a0 v4 0).toNat : Nat) : Int) ≤ (57 : Int))))))) (.i 36 (vb ((!(((decide ((97 : Int) ≤ (((List.getD a0 v4 0).toNat : Nat) : Int))) && (decide ((((List.getD a0 v4 0).toNat : Nat) : Int) ≤ (122 : Int)))) || ((decide ((65 : Int) ≤ (((List.getD a0 v4 0).toNat : Nat) : Int))) && (decide ((((List.getD a0 v4 0).toNat : Nat) : Int) ≤ (90 : Int)))))) && (!((decide ((48 : Int) ≤ (((List.getD a0 v4 0).toNat : Nat) : Int))) && (decide ((((List.getD a0 v4 0).toNat : Nat) : Int) ≤ (57 : Int))))))) .n))))))))) ?_
  refine gj (vt a0) 37 (.mov 0) 36 true rfl ?_
  refine gj (vi v4) 38 (.mov 3) 36 true rfl ?_
  refine gv 39 (.sidx 37 38) 36 true rfl (fun hg => (ok_sidx_t (j := v4) rfl rfl rfl c3)) (fun hg => (.cons hg (.cons hg .nil))) ?_
  refine gk (vb ((((List.getD a0 v4 0).toNat : Nat) : Int) != (45 : Int))) 40 (.bin .neq false 39 (.c (.p (.int .u8 45)))) 36 true rfl (fun hg => (.cons hg (.cons rfl .nil))) ?_
  refine pa 41 36 40 rfl rfl ?_
  refine jf (.d4 (.d (.k2 (.i 41 (vb (((!(((decide ((97 : Int) ≤ (((List.getD a0 v4 0).toNat : Nat) : Int))) && (decide ((((List.getD a0 v4 0).toNat : Nat) : Int) ≤ (122 : Int)))) || ((decide ((65 : Int) ≤ (((List.getD a0 v4 0).toNat : Nat) : Int))) && (decide ((((List.getD a0 v4 0).toNat : Nat) : Int) ≤ (90 : Int)))))) && (!((decide ((48 : Int) ≤ (((List.getD a0 v4 0).toNat : Nat) : Int))) && (decide ((((List.getD a0 v4 0).toNat : Nat) : Int) ≤ (57 : Int)))))) && ((((List.getD a0 v4 0).toNat : Nat) : Int) != (45 : Int)))) .n)))) ?_
  refine tc h (fun c4 h => ?_) (fun c4 h => ?_)
  ·refine sk (.i 2 (vb false) .n) ?_
   refine q3 ?_
   have h := si h
   subst h
   exact DoneS.ret Sees.refl rfl rfl
  refine q2 ?_
  refine q6 ?_
  refine rk 1 (.k (.i 22 (vi v4) .n)) ?_
  refine cK h fun c5 h => ?_
  refine jo 23 (.bin .add false 22 (ki 1)) (r_addn (i := v4) (j := 1) rfl rfl c5) ?_
  refine jk 1 (.d (.k (.i 3 (vi ((v4 + 1 : Nat) : Int)) .n))) ?_
  exact Vs.intro sy ⟨(v4 + 1), rfl, h⟩
 refine q5 ?_
 exact Vs.intro sy ⟨(), rfl, h⟩
theorem agraffebase_Within_ok (n : Nat) (a0 : Int) (a1 : Int) (a2 : Int) (r : Unit) (h : agraffebase_Within n a0 a1 a2 = some r) : FnL Tryz.prog 13 [vi a0, vi a1, vi a2] [] (vb ((decide (a1 ≤ a0)) && (decide (a0 ≤ a2)))) [] := by
 dsimp only [agraffebase_Within] at h
 refine fo [6] Tryz.call13 Tryz.func13 rfl ?_
 refine sk .a ?_
 refine sj ?_
 refine rk 4 (.k (.d (.k (.i 10 (vb (decide (a1 ≤ a0))) .n)))) ?_
 refine gj (vi a0) 11 (.mov 0) 10 true rfl ?_
 refine gj (vi a2) 12 (.mov 2) 10 true rfl ?_
 refine gk (vb (decide (a0 ≤ a2))) 13 (.bin .leq false 11 12) 10 true rfl (fun hg => (.cons hg (.cons hg .nil))) ?_
 refine pa 14 10 13 rfl rfl ?_
 refine jk 1 (.i 6 (vb ((decide (a1 ≤ a0)) && (decide (a0 ≤ a2)))) .n) ?_
 refine q3 ?_
 have h := si h
 subst h
 exact DoneS.ret Sees.refl rfl rfl
set_option maxHeartbeats 1000000 in
theorem agraffelaw08_RestoreTells_ok (n : Nat) (a0 : PartPromise) (a1 : Str) (r : Bool) (h : agraffelaw08_RestoreTells n a0 a1 = some r) : FnL Tryz.prog 3 [.agg [vt a0.Instrument, vt a0.Part, vi a0.Count], vt a1] [] (vb r) [] := by
 dsimp only [agraffelaw08_RestoreTells] at h
 refine fo [4] Tryz.call3 Tryz.func3 rfl ?_
 refine sko (.d (.k (.i 2 (.ptr 0 0 0) .n))) [some (.row 3 [.agg [vt a0.Instrument, vt a0.Part, vi a0.Count]])] ?_
 refine q1 ?_
 refine sj ?_
 refine bK h fun y1 hy1 h => ?_
 refine jc 12 [] (agraffelaw08_awake_ok n y1 hy1) ?_
 refine jk 1 (.d (.k2 (.i 13 (vb (!y1)) .n))) ?_
 refine tc h (fun c1 h => ?_) (fun c1 h => ?_)
 ·refine sk (.i 4 (vb false) .n) ?_
  refine q3 ?_
  have h := si h
  subst h
  exact DoneS.ret (S' := ⟨[(4, vb false)], []⟩) (sc [] (by decide) (by kernel_rfl) ObRen.nil rfl rfl) rfl rfl
 refine q2 ?_
 refine q1 ?_
 refine sj ?_
 refine rko 2 (.k2 (.i 15 (.own 1 0 1) .n)) [some (.row 3 [.agg [vt a0.Instrument, vt a0.Part, vi a0.Count]]), some (.row 3 [.agg [vt a0.Instrument, vt a0.Part, vi a0.Count]])] ?_
 refine RegJ.sees (Sees.freeze 1 (fr' := [(1, vt a1), (2, .ptr 0 0 0), (15, eS 3 ePartPromise ([a0] : List PartPromise))]) (ob' := [some (.row 3 [.agg [vt a0.Instrument, vt a0.Part, vi a0.Count]]), none]) rfl (frzs_cons rfl frzs_nil) (.cons (.refl _) (.cons (.refl _) (.cons (.own rfl (Nat.le_of_ble_eq_true rfl)) .nil))) rfl) ?_
 refine bK h fun y2 hy2 h => ?_
 refine jc 16 [15] (agraffelaw08_promised_ok n ([a0] : List PartPromise) y2 hy2) ?_
 refine rk 2 (.d (.k2 (.i 18 (vb (!y2)) .n))) ?_
 refine gj (vt a1) 19 (.mov 1) 18 false rfl ?_
 refine gv 20 (.len 1 19) 18 false rfl (fun hg => (ok_len_t rfl)) (fun hg => (.cons hg .nil)) ?_
 refine gv 21 (.bin .gtr false 20 (ki 100)) 18 false rfl (fun hg => (n_gtr (i := a1.length) (j := 100) rfl rfl)) (fun hg => (.cons hg (.cons rfl .nil))) ?_
 refine po 22 18 21 rfl rfl ?_
 refine jf (.d4 (.k2 (.i 22 (vb ((!y2) || (decide (100 < a1.length)))) .n))) ?_
 refine tc h (fun c2 h => ?_) (fun c2 h => ?_)
 ·refine sk (.i 4 (vb true) .n) ?_
  refine q3 ?_
  have h := si h
  subst h
  exact DoneS.ret (S' := ⟨[(4, vb true)], []⟩) (sc [] (by decide) (by kernel_rfl) ObRen.nil rfl rfl) rfl rfl
 refine q2 ?_
 refine sj ?_
 refine rk 1 (.k2 (.i 23 (.agg [vt a0.Instrument, vt a0.Part, vi a0.Count]) .n)) ?_
 refine bK h fun y3 hy3 h => ?_
 refine jc 24 [23] (restore_FormatPromise_ok n a0 y3 hy3) ?_
 refine jk 1 (.d (.k2 (.i 5 (vt y3) .n))) ?_
 refine sj ?_
 refine rk 1 (.k3 (.i 26 (vt a1) .n)) ?_
 refine bK h fun y4 hy4 h => ?_
 refine jc 27 [26] (restore_ParsePromise_ok n a1 y4 hy4) ?_
 refine jko 6 (.d (.k3 (.i 6 (.ptr 2 0 0) (.i 7 (vi y4.2.2.2) .n)))) [some (.row 3 [.agg [vt a0.Instrument, vt a0.Part, vi a0.Count]]), none, some (.row 3 [.agg [vt y4.1, vt y4.2.1, vi y4.2.2.1]])] ?_
 refine sj ?_
 refine rk 1 (.d (.k4 (.i 31 (vt a1) .n))) ?_
 refine bK h fun y5 hy5 h => ?_
 refine jc 32 [31] (agrafferef08_ParsePromise_ok n a1 y5 hy5) ?_
 refine jko 6 (.d (.k4 (.i 8 (.ptr 3 0 0) (.i 9 (vi y5.2.2.2) .n)))) [some (.row 3 [.agg [vt a0.Instrument, vt a0.Part, vi a0.Count]]), none, some (.row 3 [.agg [vt y4.1, vt y4.2.1, vi y4.2.2.1]]), some (.row 3 [.agg [vt y5.1, vt y5.2.1, vi y5.2.2.1]])] ?_
 refine q1 ?_
 refine sj ?_
 refine rk 2 (.k4 (.k2 (.i 35 (vt y3) (.i 36 (.agg [vt a0.Instrument, vt a0.Part, vi a0.Count]) .n)))) ?_
 refine bK h fun y6 hy6 h => ?_
 refine jc 37 [36] (agrafferef08_FormatPromise_ok n a0 y6 hy6) ?_
 refine rk 2 (.d (.k4 (.k2 (.i 39 (vb (!(y3 == y6))) .n)))) ?_
 refine gj (vi y4.2.2.2) 40 (.mov 7) 39 false rfl ?_
 refine gj (vi y5.2.2.2) 41 (.mov 9) 39 false rfl ?_
 refine gk (vb (y4.2.2.2 != y5.2.2.2)) 42 (.bin .neq false 40 41) 39 false rfl (fun hg => (.cons hg (.cons hg .nil))) ?_
 refine po 43 39 42 rfl rfl ?_
 refine rk 1 (.d4 (.k3 (.d (.k (.i 44 (vb ((!(y3 == y6)) || (y4.2.2.2 != y5.2.2.2))) .n))))) ?_
 refine gj (.agg [vt y4.1, vt y4.2.1, vi y4.2.2.1]) 45 (.load true 3 6) 44 false rfl ?_
 refine gj (.agg [vt y5.1, vt y5.2.1, vi y5.2.2.1]) 46 (.load true 3 8) 44 false rfl ?_
 refine RegJ.op (Op1.aggeqg (g := !((!(y3 == y6)) || (y4.2.2.2 != y5.2.2.2))) (cs := [vt y4.1, vt y4.2.1, vi y4.2.2.1]) (ds := [vt y5.1, vt y5.2.1, vi y5.2.2.1]) (b := (y4.1 == y5.1) && ((y4.2.1 == y5.2.1) && ((y4.2.2.1 == y5.2.2.1) && true))) true (cy (IG 47 (.bin .neq false 45 46) 44 false)) rfl rfl rfl (by kernel_rfl) (fun hg => (.cons hg (.cons hg .nil)))) ?_
 refine po 48 44 47 rfl rfl ?_
 refine jp [(2, .ptr 0 0 0), (5, vt y3), (48, vb (((!(y3 == y6)) || (y4.2.2.2 != y5.2.2.2)) || (!((y4.1 == y5.1) && ((y4.2.1 == y5.2.1) && ((y4.2.2.1 == y5.2.2.1) && true))))))] ?_
 refine tc h (fun c3 h => ?_) (fun c3 h => ?_)
 ·refine sk (.i 4 (vb false) .n) ?_
  refine q3 ?_
  have h := si h
  subst h
  exact DoneS.ret (S' := ⟨[(4, vb false)], []⟩) (sc [] (by decide) (by kernel_rfl) ObRen.nil rfl rfl) rfl rfl
 refine q2 ?_
 refine q1 ?_
 refine sj ?_
 refine rk 2 (.k2 (.i 50 (vt a0.Instrument) .n)) ?_
 refine bK h fun y7 hy7 h => ?_
 refine jc 51 [50] (agraffebase_IsName_ok n a0.Instrument y7 hy7) ?_
 refine rk 2 (.d (.k2 (.i 53 (vb (!y7)) .n))) ?_
 refine gj (.ptr 0 0 1) 54 (.faddr 1 2) 53 false rfl ?_
 refine gk (vt a0.Part) 55 (.load false 1 54) 53 false rfl (fun hg => (.cons hg .nil)) ?_
 refine bK h fun y8 hy8 h => ?_
 refine gc 56 [55] 53 false rfl (fun hg => agraffebase_IsName_ok n a0.Part y8 (gcall_some hy8 hg)) (fun hg => (.cons rfl (.cons hg .nil))) (fun hg => by kernel_rfl) ?_
 refine gk (vb (!y8)) 57 (.un .not 56) 53 false rfl (fun hg => (.cons hg .nil)) ?_
 refine po 58 53 57 rfl rfl ?_
 refine rk 1 (.d4 (.d (.k2 (.i 59 (vb ((!y7) || (!y8))) .n)))) ?_
 refine gj (.ptr 0 0 2) 60 (.faddr 2 2) 59 false rfl ?_
 refine gk (vi a0.Count) 61 (.load false 1 60) 59 false rfl (fun hg => (.cons hg .nil)) ?_
 refine bK h fun y9 hy9 h => ?_
 refine gc 62 [61, (ki (-999999)), (ki 999999)] 59 false rfl (fun hg => agraffebase_Within_ok n a0.Count (-999999) 999999 y9 (gcall_some hy9 hg)) (fun hg => (.cons rfl (.cons hg (.cons rfl (.cons rfl .nil))))) (fun hg => by kernel_rfl) ?_
 refine gk (vb (!((decide ((-999999) ≤ a0.Count)) && (decide (a0.Count ≤ 999999))))) 63 (.un .not 62) 59 false rfl (fun hg => (.cons hg .nil)) ?_
 refine po 64 59 63 rfl rfl ?_
 refine jf (.d4 (.d (.k2 (.i 64 (vb (((!y7) || (!y8)) || (!((decide ((-999999) ≤ a0.Count)) && (decide (a0.Count ≤ 999999)))))) .n)))) ?_
 refine tc h (fun c4 h => ?_) (fun c4 h => ?_)
 ·refine sk (.i 4 (vb true) .n) ?_
  refine q3 ?_
  have h := si h
  subst h
  exact DoneS.ret (S' := ⟨[(4, vb true)], []⟩) (sc [] (by decide) (by kernel_rfl) ObRen.nil rfl rfl) rfl rfl
 refine q2 ?_
 refine sj ?_
 refine rk 1 (.k (.i 66 (vt y3) .n)) ?_
 refine bK h fun y10 hy10 h => ?_
 refine jc 67 [66] (restore_ParsePromise_ok n y3 y10 hy10) ?_
 refine jko 6 (.d (.k (.i 10 (.ptr 4 0 0) (.i 11 (vi y10.2.2.2) .n)))) [some (.row 3 [.agg [vt a0.Instrument, vt a0.Part, vi a0.Count]]), none, some (.row 3 [.agg [vt y4.1, vt y4.2.1, vi y4.2.2.1]]), some (.row 3 [.agg [vt y5.1, vt y5.2.1, vi y5.2.2.1]]), some (.row 3 [.agg [vt y10.1, vt y10.2.1, vi y10.2.2.1]])] ?_
 refine sj ?_
 refine rk 3 (.k2 (.i 72 (vb (y10.2.2.2 == (0 : Int))) .n)) ?_
 refine gj (.agg [vt y10.1, vt y10.2.1, vi y10.2.2.1]) 73 (.load true 3 10) 72 true rfl ?_
 refine gj (.agg [vt a0.Instrument, vt a0.Part, vi a0.Count]) 74 (.load true 3 2) 72 true rfl ?_
 refine RegJ.op (Op1.aggeqg (g := (y10.2.2.2 == (0 : Int))) (cs := [vt y10.1, vt y10.2.1, vi y10.2.2.1]) (ds := [vt a0.Instrument, vt a0.Part, vi a0.Count]) (b := (y10.1 == a0.Instrument) && ((y10.2.1 == a0.Part) && ((y10.2.2.1 == a0.Count) && true))) false (cy (IG 75 (.bin .eql false 73 74) 72 true)) rfl rfl rfl (by kernel_rfl) (fun hg => (.cons hg (.cons hg .nil)))) ?_
 refine pa 76 72 75 rfl rfl ?_
 refine jq 1 [(4, vb ((y10.2.2.2 == (0 : Int)) && ((y10.1 == a0.Instrument) && ((y10.2.1 == a0.Part) && ((y10.2.2.1 == a0.Count) && true)))))] [some (.row 3 [.agg [vt a0.Instrument, vt a0.Part, vi a0.Count]]), none, some (.row 3 [.agg [vt y4.1, vt y4.2.1, vi y4.2.2.1]]), some (.row 3 [.agg [vt y5.1, vt y5.2.1, vi y5.2.2.1]]), some (.row 3 [.agg [vt y10.1, vt y10.2.1, vi y10.2.2.1]])] ?_
 refine q3 ?_
 have h := si h
 subst h
 exact DoneS.ret (S' := ⟨[(4, vb ((y10.2.2.2 == (0 : Int)) && ((y10.1 == a0.Instrument) && ((y10.2.1 == a0.Part) && ((y10.2.2.1 == a0.Count) && true)))))], []⟩) (sc [] (by decide) (by kernel_rfl) ObRen.nil rfl rfl) rfl rfl
section
open Go Go.ChangeShapes Go.WideShapes Go.ChangeAt Go.RowKit
theorem var_heap {P : Program} {W : World} {n : String} {g : Nat} {cs : Array Value} (hg : P.globalNamed n = some g) (h : W.var? P n = some cs) : ∃ T z, W.heap[g]? = some (.cells cs T z) := by
  unfold World.var? at h
  rw [hg, Option.bind_some] at h
  split at h
  · rename_i cs' T z e
    cases h
    exact ⟨T, z, e⟩
  · cases h
theorem cell_heap {W : World} {g : Nat} {v : Value} (h : W.cell? ⟨g, 0, none⟩ = some v) : ∃ cs T z, W.heap[g]? = some (.cells cs T z) ∧ cs[0]? = some v := by
  unfold World.cell? at h
  split at h
  · rename_i cs T z e
    simp only at h
    exact ⟨cs, T, z, e, by simpa using h⟩
  · cases h
theorem heap_lt {W : World} {g : Nat} {o : Obj} (h : W.heap[g]? = some o) : g < W.heap.size := by
  rcases Nat.lt_or_ge g W.heap.size with h' | h'
  · exact h'
  · rw [Array.getElem?_eq_none h'] at h; cases h
section
variable {H : Type} {enc : TypeId × Value → H} {P : Program} {w : World} {base : Nat} {spare : Nat → Bool} {held : Bool} {fuel : Nat} {t : TypeId} {cs : List Value} {x : DataW H × List MemPlace}
theorem iface_of_trod {ms : Array (String × TypeId)} (ht : P.underlying t = some (.interface ms)) (h : DataW.trod enc P w base spare held fuel t cs = some x) :
    ∃ ev, cs = [ev] ∧ (ev = .nilIface ∨ ∃ te pe, ev = .iface te pe) := by
  cases fuel with
  | zero => simp [DataW.trod] at h
  | succ m =>
    unfold DataW.trod at h
    rw [ht] at h
    split at h <;> simp_all
end
theorem returns_laid {H : Type} {enc : TypeId × Value → H} {a : Assume} {C : Checked} {os : Os} {f : FuncId} {fn : Func} {s : ChangeSpec} {conds : List PathCond} {apart fresh handsOn again : Bool} {X : World → Array Value → Prop}
    (hX : ∀ (w w' : World) (args : Array Value), w.heap = w'.heap → X w args → X w' args)
    (own : ownKnob C.prog.godebug = none) (started : os.Started) (noInit : C.prog.inits.idxOf? f = none) (hfn : C.prog.funcs[f]? = some fn)
    (witness : ∃ (w : World) (tape : Tape) (i : Input), w.os = os ∧ (w.forCall tape i).Shaped C.prog ∧ i.vars = [] ∧ Input.okWide C.prog (w.forCall tape i) .any w.heap.size f i ∧
      ((s.pre enc C.prog fn conds apart (w.forCall tape i).memory i.args ∧ X (w.forCall tape i).memory i.args) ∧ sizedMet enc C.prog fn (OpenSpec.ofChange s) apart (w.forCall tape i).memory i.args) ∧ a.holds C.prog (lone (Frame.enter C.prog f i.args .normal) [] (w.forCall tape i)))
    (contract : ∀ (W : World) (base : Nat) (args : Array Value) (ds gs : List (DataW H)) (before : List MemPlace),
      (∀ (j : Nat) t v, fn.params[j]? = some t → args[j]? = some v → Value.okWide C.prog W .any base t v) →
      DataW.Whole enc C.prog fn.params.toList s.vars apart W args.toList ds gs before → W.ShapedOpen C.prog → X W args →
      Calls C.prog f args W fun e W' => ∃ v, e = .returned v ∧ s.post enc C.prog fn apart fresh handsOn again W args v W') :
    ReturnsInHanded a C os f .any (fun w args => (s.pre enc C.prog fn conds apart w args ∧ X w args) ∧ sizedMet enc C.prog fn (OpenSpec.ofChange s) apart w args) (s.post enc C.prog fn apart fresh handsOn again) := by
  refine returnsInHanded_of_calls own started noInit witness fun w tape i _ hs _ hok hpre hholds => ?_
  obtain ⟨_, _, _, fn2, hf2, _, _, _, _, hval⟩ := hok
  obtain rfl : fn2 = fn := Option.some.inj (hf2.symm.trans hfn)
  obtain ⟨⟨⟨ds, gs, before, hw, _⟩, hx⟩, _⟩ := hpre
  refine (contract (w.forCall tape i) w.heap.size i.args ds gs before hval (DataW.Whole.of_heap (w' := w.forCall tape i) (by rfl) hw) hs (hX _ _ _ (by rfl) hx)).mono ?_
  rintro e W2 ⟨v, rfl, hp⟩
  exact ChangeSpec.post_blind hp
end
end Go.Proofs.YtchkkpbkgghcoaaGreatDoor.As
