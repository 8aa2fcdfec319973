/- The code computes what the plain functions say, part 1: no condition. -/
import Derived.Test.YtchkkpbkgghcoaaGreatDoorPlain1
import Derived.Test.YtchkkpbkgghcoaaGreatDoorProg
import Derived.ChangeVars
import Derived.Ground.NamesProg
import Derived.Handed
import Derived.KernelRfl
import Derived.Lay
import Derived.Lib.AppendZerosOnto
import Derived.Lib.LaidU8
import Derived.LoopIn
import Derived.LoopNIn
import Derived.OwnWalkIn
import Derived.RangeFuncBound
import Derived.RangeFuncCalls
import Derived.RangeFuncLeaves
import Derived.RangeFuncNested
import Derived.Shelf.Abstract
import Derived.Shelf.Lays
import Derived.Shelf.LaysM
import Derived.Shelf.RegionOpen
import Derived.Shelf.Small.Strs
import Derived.Shelf.Spec.SlicesInsert
import Derived.Shelf.Strconv.AtoiAll
import Derived.Shelf.Strconv.Itoa3
import Derived.Shelf.Strings.OnBuilder
import Derived.Shelf.Strings.Split
import Derived.Shelf.Vars
import Derived.SizedLaws
import Derived.Sort.EncStr
import Derived.Sort.Grow
import Derived.TacticsInMore
import Derived.WalkKit
namespace Go.Proofs.YtchkkpbkgghcoaaGreatDoor.As
open Go Go.Proofs
set_option maxRecDepth 4000
section
open Go Go.Proofs
def keepT : List (Nat × List Nat) := [(6, [0, 1, 2, 3, 4, 5, 6, 7]), (29, [0, 1, 2, 6, 7, 8, 9, 10, 11, 12, 13, 15, 16, 17, 19, 20, 22, 23, 24, 25, 26, 27, 28, 29, 30, 34, 39, 46, 50, 51, 52, 53, 63, 77, 78, 79, 80, 81, 85, 86, 87, 88, 127, 128, 129, 140, 144, 145, 146, 147, 155, 180]), (30, [0]), (31, [0]), (32, [0, 1, 4, 5, 6, 7, 8, 10, 11, 12, 17, 21, 22, 23, 24, 28, 29, 30, 35]), (33, [0, 1, 2, 3, 4, 5, 6, 8, 9, 10, 11, 12, 13, 15, 16, 20, 24, 28, 31, 35, 36, 37, 38, 52, 53, 54, 55, 83, 84, 85, 86]), (34, [0, 1, 4, 5, 10, 14, 25]), (35, [0, 1, 4, 5, 10, 14, 26]), (36, [0, 1, 4, 5, 10, 14, 25]), (53, [0, 1, 4, 5, 7, 8, 9, 16]), (56, [0, 2, 3, 4, 7, 9, 10, 11, 17, 25]), (59, [0, 2, 3, 5, 6, 8, 9, 10, 11, 12, 20, 25, 26, 27, 28]), (70, [0, 2, 3, 4, 7, 8, 9, 10, 11, 15, 20, 28]), (71, [0, 1, 4, 6, 7, 8, 9, 10, 11, 17, 22, 34]), (72, [0, 1, 2, 4, 5, 6, 8, 9, 13, 14, 15, 16, 24]), (73, [0, 1, 4, 5, 7, 8, 9, 10, 11]), (74, [0, 1, 3, 4, 5, 10, 11, 12, 18, 39]), (75, [0, 1, 4, 5, 6, 7, 8, 9, 10, 11, 19]), (76, [0, 2, 3, 5, 6, 7, 8, 9, 14]), (77, [0, 1, 4, 5, 6, 11, 12, 13, 16, 19]), (78, [0, 1, 4, 5, 6, 7, 8, 9, 10, 11, 12, 19, 28, 35]), (79, [0, 1, 4, 5, 6, 8, 13, 17, 18, 19, 20, 21, 39]), (80, [0, 2, 4]), (81, [0, 1, 4, 5, 7, 8, 9, 16]), (82, [0, 1, 2, 3]), (83, [0, 1, 2, 6]), (84, [0, 1, 4]), (85, [0, 2]), (86, [0, 2, 3, 4, 7, 15]), (87, [0, 1]), (88, [0, 1, 2, 3, 4, 7]), (107, [0, 1, 4, 5, 6, 7, 9, 10, 15, 20, 27, 38, 66, 69, 70, 71, 72, 77, 82]), (108, [0, 1, 3, 4, 5, 6, 7, 13]), (109, [2]), (111, [0, 1, 4, 6, 16]), (120, [0, 2, 3, 4, 5, 7, 8, 9, 10, 45]), (121, [0, 1, 3, 4]), (122, [0, 1, 3, 4]), (123, [0, 1, 4]), (124, [0, 1, 3]), (125, [0, 2]), (126, [0, 2]), (127, [0, 1, 4, 5, 6, 11, 12, 13, 16, 19]), (128, [0, 1, 2, 12]), (129, [0, 1, 2, 3, 8, 9, 11, 12, 13, 17, 19, 20, 21, 22, 30, 34, 42]), (130, [0, 1, 2]), (131, [0, 1, 4, 5, 7, 8, 9, 16]), (132, [0, 1, 2, 6, 7, 8, 9, 13, 30, 35, 54]), (142, [0, 1, 4]), (152, [0, 2]), (156, [0, 2]), (157, [0, 1, 4]), (158, [0, 1, 4, 5, 6, 7, 8, 9, 10, 14, 19]), (159, [0, 1, 4, 5, 6, 7, 8, 9, 10, 14, 19, 25]), (160, [0, 1, 2, 4]), (161, [0, 1, 4, 5, 7, 8, 9, 16]), (162, [0, 1, 2, 3]), (163, [0, 1, 4]), (164, [0, 1, 2]), (169, [0, 1, 4, 5, 7, 8, 9, 16]), (170, [0, 1, 2, 3]), (171, [0, 1, 2, 3]), (172, [0, 1, 4, 5, 7, 8, 9, 16]), (173, [0, 1, 2, 3, 8, 9, 10, 11, 12, 13, 14, 15, 16, 17, 18, 23, 29, 35, 50, 68, 72, 87, 113]), (174, [0, 2]), (175, [0, 1, 2, 3, 8, 9, 14, 34]), (176, [0, 1, 2, 3, 4, 10, 11, 12, 13, 14, 15, 16, 17, 18, 19, 20, 21, 22, 23, 24, 28, 33, 50, 58, 80, 85, 103, 110, 140, 151, 171, 185, 199, 213]), (211, [0, 2, 4, 8]), (212, [0, 2, 4, 8, 14]), (216, [0, 1, 4, 5, 7, 8, 9, 16]), (217, [0, 1, 4]), (218, [0, 1, 2, 3]), (219, [0, 1, 4, 5, 7, 8, 9, 16]), (221, [0, 1, 2, 6, 7, 12, 30]), (222, [0, 1, 2, 6, 7, 8, 9, 10, 19, 30]), (223, [0, 1, 2, 6, 7, 8, 9, 10, 15, 33, 43]), (224, [0, 1, 2, 6, 7, 8, 9, 10, 11, 12, 32, 34, 49, 51, 54]), (225, [0, 1, 2, 6, 7, 13]), (226, [0, 1, 2, 6, 7, 8, 9, 10, 14, 32, 37, 41, 61, 65, 78, 98, 103, 116]), (227, [0, 1, 4]), (228, [0, 1, 2, 3, 8, 9, 10, 43, 59, 64]), (229, [0, 1, 2, 3, 8, 9, 10, 11, 43, 60, 65, 112, 129, 134]), (230, [0, 1, 2, 3, 4, 10, 11, 20, 23]), (246, [0, 2]), (247, [0, 2]), (253, [0, 1, 4, 5, 7, 8, 9, 16]), (254, [0, 1, 2, 3, 8, 9, 16, 36, 52]), (255, [0, 1, 2, 6]), (256, [0, 1, 2, 3, 4, 10]), (257, [0, 1, 2, 3, 10, 13]), (266, [0, 1, 2, 3, 8, 9, 18])]
def keepOf (f : Nat) : List Nat := match keepT.find? (fun p => Nat.beq p.1 f) with
  | some p => p.2
  | none => []
theorem closed_ok : FnL Tryz.prog 6 [] [] (vb true) [] := funE_sound (by kernel_rfl) 200 false 6 [] [] _ _ (by kernel_rfl : funE Tryz.prog keepOf 1000 200 false 6 [] [] = some (vb true, []))
end
section
open Go Go.Proofs Go.Shelf
def txItoaR : Go.Shelf.Ren := ⟨fun | 171 => 38 | 243 => 90 | 246 => 134 | 283 => 178 | 284 => 179 | 285 => 180 | 286 => 181 | 129 => 212 | 317 => 231 | 318 => 232 | 319 => 233 | 320 => 234 | 337 => 258 | 338 => 259 | n => n, fun | 3 => 3 | 9 => 9 | 2 => 2 | 4 => 4 | 171 => 242 | 0 => 0 | 53 => 243 | 37 => 114 | 5 => 5 | 173 => 246 | 212 => 287 | 51 => 272 | 20 => 20 | 213 => 288 | 46 => 146 | 232 => 328 | 233 => 329 | n => n, fun | 17 => 2 | 18 => 7 | 19 => 8 | n => n⟩
theorem txItoa : Go.Proofs.LaysM.n171 Tryz.prog txItoaR := {
  mixed := by kernel_rfl
  f129 := Tryz.func212.trans (congrArg some (by kernel_rfl))
  f171 := Tryz.func38.trans (congrArg some (by kernel_rfl))
  f243 := Tryz.func90.trans (congrArg some (by kernel_rfl))
  f246 := Tryz.func134.trans (congrArg some (by kernel_rfl))
  f283 := Tryz.func178.trans (congrArg some (by kernel_rfl))
  f284 := Tryz.func179.trans (congrArg some (by kernel_rfl))
  f285 := Tryz.func180.trans (congrArg some (by kernel_rfl))
  f286 := Tryz.func181.trans (congrArg some (by kernel_rfl))
  f317 := Tryz.func231.trans (congrArg some (by kernel_rfl))
  f318 := Tryz.func232.trans (congrArg some (by kernel_rfl))
  f319 := Tryz.func233.trans (congrArg some (by kernel_rfl))
  f320 := Tryz.func234.trans (congrArg some (by kernel_rfl))
  f337 := Tryz.func258.trans (congrArg some (by kernel_rfl))
  f338 := Tryz.func259.trans (congrArg some (by kernel_rfl))
  t0 := Tryz.underlying0
  a0 := Tryz.isAgg0
  z0 := Tryz.sizeOf0
  v0 := Tryz.zeroValue0
  t2 := Tryz.underlying2
  a2 := Tryz.isAgg2
  z2 := Tryz.sizeOf2
  v2 := Tryz.zeroValue2
  t3 := Tryz.underlying3
  a3 := Tryz.isAgg3
  z3 := Tryz.sizeOf3
  v3 := Tryz.zeroValue3
  t4 := Tryz.underlying4
  a4 := Tryz.isAgg4
  z4 := Tryz.sizeOf4
  v4 := Tryz.zeroValue4
  t5 := Tryz.underlying5
  a5 := Tryz.isAgg5
  z5 := Tryz.sizeOf5
  v5 := Tryz.zeroValue5
  t9 := Tryz.underlying9
  a9 := Tryz.isAgg9
  z9 := Tryz.sizeOf9
  v9 := Tryz.zeroValue9
  t20 := Tryz.underlying20
  a20 := Tryz.isAgg20
  z20 := Tryz.sizeOf20
  v20 := Tryz.zeroValue20
  t37 := Tryz.underlying114
  a37 := Tryz.isAgg114
  z37 := Tryz.sizeOf114
  v37 := Tryz.zeroValue114
  t46 := Tryz.underlying146
  a46 := Tryz.isAgg146
  z46 := Tryz.sizeOf146
  v46 := Tryz.zeroValue146
  t51 := Tryz.underlying272
  a51 := Tryz.isAgg272
  z51 := Tryz.sizeOf272
  v51 := Tryz.zeroValue272
  t53 := Tryz.underlying243
  a53 := Tryz.isAgg243
  z53 := Tryz.sizeOf243
  v53 := Tryz.zeroValue243
  t171 := Tryz.underlying242
  a171 := Tryz.isAgg242
  z171 := Tryz.sizeOf242
  v171 := Tryz.zeroValue242
  t173 := Tryz.underlying246
  a173 := Tryz.isAgg246
  z173 := Tryz.sizeOf246
  v173 := Tryz.zeroValue246
  t212 := Tryz.underlying287
  a212 := Tryz.isAgg287
  z212 := Tryz.sizeOf287
  v212 := Tryz.zeroValue287
  t213 := Tryz.underlying288
  a213 := Tryz.isAgg288
  z213 := Tryz.sizeOf288
  t232 := Tryz.underlying328
  a232 := Tryz.isAgg328
  z232 := Tryz.sizeOf328
  v232 := Tryz.zeroValue328
  t233 := Tryz.underlying329
  a233 := Tryz.isAgg329
  z233 := Tryz.sizeOf329
  v233 := Tryz.zeroValue329
  g17 := by kernel_rfl
  g18 := by kernel_rfl
  g19 := by kernel_rfl
  i0 := by kernel_rfl
  i2 := by kernel_rfl
  i3 := by kernel_rfl
  i4 := by kernel_rfl
  i5 := by kernel_rfl
  i9 := by kernel_rfl
  i20 := by kernel_rfl
  i37 := by kernel_rfl
  i46 := by kernel_rfl
  i51 := by kernel_rfl
  i53 := by kernel_rfl
  i171 := by kernel_rfl
  i173 := by kernel_rfl
  i212 := by kernel_rfl
  i232 := by kernel_rfl
  i233 := by kernel_rfl
  m17 := by kernel_rfl
  m18 := by kernel_rfl
  m19 := by kernel_rfl }
def txAtoiR : Go.Shelf.Ren := ⟨fun | 172 => 92 | 244 => 138 | 245 => 139 | 247 => 186 | 279 => 187 | 280 => 188 | 281 => 189 | 282 => 190 | 287 => 239 | 316 => 240 | 171 => 38 | 205 => 241 | 321 => 261 | 322 => 262 | 243 => 90 | 246 => 134 | 283 => 178 | 284 => 179 | 285 => 180 | 286 => 181 | 129 => 212 | 317 => 231 | 318 => 232 | 319 => 233 | 320 => 234 | 337 => 258 | 338 => 259 | n => n, fun | 9 => 9 | 3 => 3 | 75 => 118 | 76 => 119 | 4 => 4 | 5 => 5 | 167 => 250 | 37 => 114 | 0 => 0 | 85 => 251 | 2 => 2 | 168 => 253 | 53 => 243 | 175 => 289 | 46 => 146 | 210 => 293 | 127 => 187 | 145 => 321 | 143 => 319 | 21 => 21 | 171 => 242 | 173 => 246 | 212 => 287 | 51 => 272 | 20 => 20 | 213 => 288 | 232 => 328 | 233 => 329 | 80 => 123 | n => n, fun | 15 => 3 | 16 => 4 | 17 => 2 | 18 => 7 | 19 => 8 | n => n⟩
theorem txAtoi : Go.Proofs.LaysC.n172 Tryz.prog txAtoiR := {
  mixed := by kernel_rfl
  f129 := Tryz.func212.trans (congrArg some (by kernel_rfl))
  f171 := Tryz.func38.trans (congrArg some (by kernel_rfl))
  f172 := Tryz.func92.trans (congrArg some (by kernel_rfl))
  f205 := Tryz.func241.trans (congrArg some (by kernel_rfl))
  f243 := Tryz.func90.trans (congrArg some (by kernel_rfl))
  f244 := Tryz.func138.trans (congrArg some (by kernel_rfl))
  f245 := Tryz.func139.trans (congrArg some (by kernel_rfl))
  f246 := Tryz.func134.trans (congrArg some (by kernel_rfl))
  f247 := Tryz.func186.trans (congrArg some (by kernel_rfl))
  f279 := Tryz.func187.trans (congrArg some (by kernel_rfl))
  f280 := Tryz.func188.trans (congrArg some (by kernel_rfl))
  f281 := Tryz.func189.trans (congrArg some (by kernel_rfl))
  f282 := Tryz.func190.trans (congrArg some (by kernel_rfl))
  f283 := Tryz.func178.trans (congrArg some (by kernel_rfl))
  f284 := Tryz.func179.trans (congrArg some (by kernel_rfl))
  f285 := Tryz.func180.trans (congrArg some (by kernel_rfl))
  f286 := Tryz.func181.trans (congrArg some (by kernel_rfl))
  f287 := Tryz.func239.trans (congrArg some (by kernel_rfl))
  f316 := Tryz.func240.trans (congrArg some (by kernel_rfl))
  f317 := Tryz.func231.trans (congrArg some (by kernel_rfl))
  f318 := Tryz.func232.trans (congrArg some (by kernel_rfl))
  f319 := Tryz.func233.trans (congrArg some (by kernel_rfl))
  f320 := Tryz.func234.trans (congrArg some (by kernel_rfl))
  f321 := Tryz.func261.trans (congrArg some (by kernel_rfl))
  f322 := Tryz.func262.trans (congrArg some (by kernel_rfl))
  f337 := Tryz.func258.trans (congrArg some (by kernel_rfl))
  f338 := Tryz.func259.trans (congrArg some (by kernel_rfl))
  t0 := Tryz.underlying0
  a0 := Tryz.isAgg0
  z0 := Tryz.sizeOf0
  v0 := Tryz.zeroValue0
  t2 := Tryz.underlying2
  a2 := Tryz.isAgg2
  z2 := Tryz.sizeOf2
  v2 := Tryz.zeroValue2
  t3 := Tryz.underlying3
  a3 := Tryz.isAgg3
  z3 := Tryz.sizeOf3
  v3 := Tryz.zeroValue3
  t4 := Tryz.underlying4
  a4 := Tryz.isAgg4
  z4 := Tryz.sizeOf4
  v4 := Tryz.zeroValue4
  t5 := Tryz.underlying5
  a5 := Tryz.isAgg5
  z5 := Tryz.sizeOf5
  v5 := Tryz.zeroValue5
  t9 := Tryz.underlying9
  a9 := Tryz.isAgg9
  z9 := Tryz.sizeOf9
  v9 := Tryz.zeroValue9
  t20 := Tryz.underlying20
  a20 := Tryz.isAgg20
  z20 := Tryz.sizeOf20
  v20 := Tryz.zeroValue20
  t21 := Tryz.underlying21
  a21 := Tryz.isAgg21
  z21 := Tryz.sizeOf21
  v21 := Tryz.zeroValue21
  t37 := Tryz.underlying114
  a37 := Tryz.isAgg114
  z37 := Tryz.sizeOf114
  v37 := Tryz.zeroValue114
  t46 := Tryz.underlying146
  a46 := Tryz.isAgg146
  z46 := Tryz.sizeOf146
  v46 := Tryz.zeroValue146
  t51 := Tryz.underlying272
  a51 := Tryz.isAgg272
  z51 := Tryz.sizeOf272
  v51 := Tryz.zeroValue272
  t53 := Tryz.underlying243
  a53 := Tryz.isAgg243
  z53 := Tryz.sizeOf243
  v53 := Tryz.zeroValue243
  t75 := Tryz.underlying118
  a75 := Tryz.isAgg118
  z75 := Tryz.sizeOf118
  v75 := Tryz.zeroValue118
  t76 := Tryz.underlying119
  a76 := Tryz.isAgg119
  z76 := Tryz.sizeOf119
  v76 := Tryz.zeroValue119
  t85 := Tryz.underlying251
  a85 := Tryz.isAgg251
  z85 := Tryz.sizeOf251
  v85 := Tryz.zeroValue251
  t127 := Tryz.underlying187
  a127 := Tryz.isAgg187
  z127 := Tryz.sizeOf187
  v127 := Tryz.zeroValue187
  t143 := Tryz.underlying319
  a143 := Tryz.isAgg319
  z143 := Tryz.sizeOf319
  v143 := Tryz.zeroValue319
  t145 := Tryz.underlying321
  a145 := Tryz.isAgg321
  z145 := Tryz.sizeOf321
  v145 := Tryz.zeroValue321
  t167 := Tryz.underlying250
  a167 := Tryz.isAgg250
  z167 := Tryz.sizeOf250
  v167 := Tryz.zeroValue250
  t168 := Tryz.underlying253
  a168 := Tryz.isAgg253
  z168 := Tryz.sizeOf253
  v168 := Tryz.zeroValue253
  t171 := Tryz.underlying242
  a171 := Tryz.isAgg242
  z171 := Tryz.sizeOf242
  v171 := Tryz.zeroValue242
  t173 := Tryz.underlying246
  a173 := Tryz.isAgg246
  z173 := Tryz.sizeOf246
  v173 := Tryz.zeroValue246
  t175 := Tryz.underlying289
  a175 := Tryz.isAgg289
  z175 := Tryz.sizeOf289
  v175 := Tryz.zeroValue289
  t210 := Tryz.underlying293
  a210 := Tryz.isAgg293
  z210 := Tryz.sizeOf293
  v210 := Tryz.zeroValue293
  t212 := Tryz.underlying287
  a212 := Tryz.isAgg287
  z212 := Tryz.sizeOf287
  v212 := Tryz.zeroValue287
  t213 := Tryz.underlying288
  a213 := Tryz.isAgg288
  z213 := Tryz.sizeOf288
  t232 := Tryz.underlying328
  a232 := Tryz.isAgg328
  z232 := Tryz.sizeOf328
  v232 := Tryz.zeroValue328
  t233 := Tryz.underlying329
  a233 := Tryz.isAgg329
  z233 := Tryz.sizeOf329
  v233 := Tryz.zeroValue329
  g15 := by kernel_rfl
  g16 := by kernel_rfl
  g17 := by kernel_rfl
  g18 := by kernel_rfl
  g19 := by kernel_rfl
  t80 := Tryz.underlying123
  a80 := Tryz.isAgg123
  z80 := Tryz.sizeOf123
  v80 := Tryz.zeroValue123
  i0 := by kernel_rfl
  i2 := by kernel_rfl
  i3 := by kernel_rfl
  i4 := by kernel_rfl
  i5 := by kernel_rfl
  i9 := by kernel_rfl
  i20 := by kernel_rfl
  i21 := by kernel_rfl
  i37 := by kernel_rfl
  i46 := by kernel_rfl
  i51 := by kernel_rfl
  i53 := by kernel_rfl
  i75 := by kernel_rfl
  i76 := by kernel_rfl
  i80 := by kernel_rfl
  i85 := by kernel_rfl
  i127 := by kernel_rfl
  i143 := by kernel_rfl
  i145 := by kernel_rfl
  i167 := by kernel_rfl
  i168 := by kernel_rfl
  i171 := by kernel_rfl
  i173 := by kernel_rfl
  i175 := by kernel_rfl
  i210 := by kernel_rfl
  i212 := by kernel_rfl
  i232 := by kernel_rfl
  i233 := by kernel_rfl
  m15 := by kernel_rfl
  m16 := by kernel_rfl
  m17 := by kernel_rfl
  m18 := by kernel_rfl
  m19 := by kernel_rfl
  c0 := by kernel_rfl
  c2 := by kernel_rfl
  c3 := by kernel_rfl
  c4 := by kernel_rfl
  c5 := by kernel_rfl
  c9 := by kernel_rfl
  c20 := by kernel_rfl
  c21 := by kernel_rfl
  c37 := by kernel_rfl
  c46 := by kernel_rfl
  c51 := by kernel_rfl
  c53 := by kernel_rfl
  c75 := by kernel_rfl
  c76 := by kernel_rfl
  c80 := by kernel_rfl
  c85 := by kernel_rfl
  c127 := by kernel_rfl
  c143 := by kernel_rfl
  c145 := by kernel_rfl
  c167 := by kernel_rfl
  c168 := by kernel_rfl
  c171 := by kernel_rfl
  c173 := by kernel_rfl
  c175 := by kernel_rfl
  c210 := by kernel_rfl
  c212 := by kernel_rfl
  c213 := by kernel_rfl
  c232 := by kernel_rfl
  c233 := by kernel_rfl }
def txSplitR : Go.Shelf.Ren := ⟨fun | 146 => 39 | 221 => 91 | 268 => 135 | 138 => 136 | 143 => 137 | 195 => 182 | 197 => 183 | 218 => 184 | 219 => 185 | 260 => 235 | 217 => 167 | 225 => 236 | 224 => 237 | 267 => 238 | 266 => 220 | 314 => 260 | n => n, fun | 9 => 9 | 31 => 59 | 3 => 3 | 4 => 4 | 0 => 0 | 105 => 248 | 21 => 21 | 5 => 5 | 46 => 146 | 119 => 313 | 139 => 316 | 138 => 315 | 146 => 306 | 51 => 272 | n => n, fun | 1 => 1 | 3 => 5 | 4 => 6 | n => n⟩
theorem txSplit : Go.Proofs.Lays.n146 Tryz.prog txSplitR := {
  mixed := by kernel_rfl
  f138 := Tryz.func136.trans (congrArg some (by kernel_rfl))
  f143 := Tryz.func137.trans (congrArg some (by kernel_rfl))
  f146 := Tryz.func39.trans (congrArg some (by kernel_rfl))
  f195 := Tryz.func182.trans (congrArg some (by kernel_rfl))
  f197 := Tryz.func183.trans (congrArg some (by kernel_rfl))
  f217 := Tryz.func167.trans (congrArg some (by kernel_rfl))
  f218 := Tryz.func184.trans (congrArg some (by kernel_rfl))
  f219 := Tryz.func185.trans (congrArg some (by kernel_rfl))
  f221 := Tryz.func91.trans (congrArg some (by kernel_rfl))
  f224 := Tryz.func237.trans (congrArg some (by kernel_rfl))
  f225 := Tryz.func236.trans (congrArg some (by kernel_rfl))
  f260 := Tryz.func235.trans (congrArg some (by kernel_rfl))
  f266 := Tryz.func220.trans (congrArg some (by kernel_rfl))
  f267 := Tryz.func238.trans (congrArg some (by kernel_rfl))
  f268 := Tryz.func135.trans (congrArg some (by kernel_rfl))
  f314 := Tryz.func260.trans (congrArg some (by kernel_rfl))
  t0 := Tryz.underlying0
  a0 := Tryz.isAgg0
  z0 := Tryz.sizeOf0
  v0 := Tryz.zeroValue0
  t3 := Tryz.underlying3
  a3 := Tryz.isAgg3
  z3 := Tryz.sizeOf3
  v3 := Tryz.zeroValue3
  t4 := Tryz.underlying4
  a4 := Tryz.isAgg4
  z4 := Tryz.sizeOf4
  v4 := Tryz.zeroValue4
  t5 := Tryz.underlying5
  a5 := Tryz.isAgg5
  z5 := Tryz.sizeOf5
  v5 := Tryz.zeroValue5
  t9 := Tryz.underlying9
  a9 := Tryz.isAgg9
  z9 := Tryz.sizeOf9
  v9 := Tryz.zeroValue9
  t21 := Tryz.underlying21
  a21 := Tryz.isAgg21
  z21 := Tryz.sizeOf21
  v21 := Tryz.zeroValue21
  t31 := Tryz.underlying59
  a31 := Tryz.isAgg59
  z31 := Tryz.sizeOf59
  v31 := Tryz.zeroValue59
  t46 := Tryz.underlying146
  a46 := Tryz.isAgg146
  z46 := Tryz.sizeOf146
  v46 := Tryz.zeroValue146
  t51 := Tryz.underlying272
  a51 := Tryz.isAgg272
  z51 := Tryz.sizeOf272
  v51 := Tryz.zeroValue272
  t105 := Tryz.underlying248
  a105 := Tryz.isAgg248
  z105 := Tryz.sizeOf248
  v105 := Tryz.zeroValue248
  t119 := Tryz.underlying313
  a119 := Tryz.isAgg313
  z119 := Tryz.sizeOf313
  t138 := Tryz.underlying315
  a138 := Tryz.isAgg315
  z138 := Tryz.sizeOf315
  v138 := Tryz.zeroValue315
  t139 := Tryz.underlying316
  a139 := Tryz.isAgg316
  z139 := Tryz.sizeOf316
  v139 := Tryz.zeroValue316
  t146 := Tryz.underlying306
  a146 := Tryz.isAgg306
  z146 := Tryz.sizeOf306
  v146 := Tryz.zeroValue306
  g1 := by kernel_rfl
  g3 := by kernel_rfl
  g4 := by kernel_rfl }
def txJoinR : Go.Shelf.Ren := ⟨fun | 156 => 37 | 165 => 89 | 166 => 58 | 169 => 60 | 240 => 110 | 241 => 133 | 276 => 165 | 277 => 177 | n => n, fun | 31 => 59 | 9 => 9 | 3 => 3 | 4 => 4 | 0 => 0 | 20 => 20 | 72 => 116 | 76 => 119 | 70 => 113 | 37 => 114 | 75 => 118 | 127 => 187 | 164 => 230 | 5 => 5 | 80 => 123 | n => n, fun | n => n⟩
theorem txJoin : Go.Proofs.Lays.n156 Tryz.prog txJoinR := {
  mixed := by kernel_rfl
  f156 := Tryz.func37.trans (congrArg some (by kernel_rfl))
  f165 := Tryz.func89.trans (congrArg some (by kernel_rfl))
  f166 := Tryz.func58.trans (congrArg some (by kernel_rfl))
  f169 := Tryz.func60.trans (congrArg some (by kernel_rfl))
  f240 := Tryz.func110.trans (congrArg some (by kernel_rfl))
  f241 := Tryz.func133.trans (congrArg some (by kernel_rfl))
  f276 := Tryz.func165.trans (congrArg some (by kernel_rfl))
  f277 := Tryz.func177.trans (congrArg some (by kernel_rfl))
  t0 := Tryz.underlying0
  a0 := Tryz.isAgg0
  z0 := Tryz.sizeOf0
  v0 := Tryz.zeroValue0
  t3 := Tryz.underlying3
  a3 := Tryz.isAgg3
  z3 := Tryz.sizeOf3
  v3 := Tryz.zeroValue3
  t4 := Tryz.underlying4
  a4 := Tryz.isAgg4
  z4 := Tryz.sizeOf4
  v4 := Tryz.zeroValue4
  t9 := Tryz.underlying9
  a9 := Tryz.isAgg9
  z9 := Tryz.sizeOf9
  v9 := Tryz.zeroValue9
  t20 := Tryz.underlying20
  a20 := Tryz.isAgg20
  z20 := Tryz.sizeOf20
  v20 := Tryz.zeroValue20
  t31 := Tryz.underlying59
  a31 := Tryz.isAgg59
  z31 := Tryz.sizeOf59
  v31 := Tryz.zeroValue59
  t37 := Tryz.underlying114
  a37 := Tryz.isAgg114
  z37 := Tryz.sizeOf114
  v37 := Tryz.zeroValue114
  t70 := Tryz.underlying113
  a70 := Tryz.isAgg113
  z70 := Tryz.sizeOf113
  v70 := Tryz.zeroValue113
  t72 := Tryz.underlying116
  a72 := Tryz.isAgg116
  z72 := Tryz.sizeOf116
  v72 := Tryz.zeroValue116
  t75 := Tryz.underlying118
  a75 := Tryz.isAgg118
  z75 := Tryz.sizeOf118
  v75 := Tryz.zeroValue118
  t76 := Tryz.underlying119
  a76 := Tryz.isAgg119
  z76 := Tryz.sizeOf119
  v76 := Tryz.zeroValue119
  t127 := Tryz.underlying187
  a127 := Tryz.isAgg187
  z127 := Tryz.sizeOf187
  v127 := Tryz.zeroValue187
  t164 := Tryz.underlying230
  a164 := Tryz.isAgg230
  z164 := Tryz.sizeOf230
  v164 := Tryz.zeroValue230 }
theorem txExtra : Builder.Extra Tryz.prog txJoinR := {
  sizeBuilder := by kernel_rfl
  liesBuilder := by kernel_rfl
  t5 := Tryz.underlying5
  a5 := Tryz.isAgg5
  z5 := Tryz.sizeOf5
  v5 := Tryz.zeroValue5
  infoByte := by kernel_rfl
  cellsByte := by kernel_rfl
  sizeByte := by kernel_rfl
  neB5 := by decide }
theorem tab_of {P : Program} {w : World} {name : String} {g : Nat} {k : IntKind} {zs : List Int} {cs : Array Value} {T : TypeId} {z : Nat × Nat} (hn : P.globalNamed name = some g) (h : w.heap[g]? = some (.cells cs T z)) (h2 : cs = (zs.map fun z => Value.int k z).toArray) : Lib.TabIs P w name k zs := by
  unfold Lib.TabIs World.var?
  rw [hn, Option.bind_some, h, h2]
theorem cell_of {w : World} {g j : Nat} {cs : Array Value} {T : TypeId} {z : Nat × Nat} (h : w.heap[g]? = some (.cells cs T z)) : w.cell? ⟨g, j, none⟩ = cs[j]? := by
  simp [World.cell?, h]
theorem below_grow (w : World) (n : Nat) (os : Array Obj) : RowKit.Below w.heap.size w (Sort.grow (w.drewN n) os) :=
  ⟨rfl, rfl, rfl, by simp [Sort.grow], fun b hb => by simp only [Sort.grow, World.drewN]; rw [Array.getElem?_append_left (by simpa using hb)]⟩
theorem itoa_call {n : Int} (h : inI n = true) : FnL Tryz.prog 38 [vi n] [] (vt (itoaL n)) [] := by
  have hn : -9223372036854775808 ≤ n ∧ n ≤ 9223372036854775807 := by simpa [inI] using h
  refine FnL_lib Tryz.call38 (vs := [.int .i64 n]) fun w F hg => ?_
  obtain ⟨_, cs, T, z, h1, h2⟩ := hg.2 _ (List.Mem.head _)
  refine (Any.strconv_Itoa txItoa n hn.1 hn.2 w (tab_of (by kernel_rfl) h1 (h2.trans rfl))).mono ?_
  rintro e w' ⟨rfl, k, os, rfl⟩
  exact ⟨_, rfl, below_grow w k os, fun β => .fr (.p rfl)⟩
theorem vrep_pair {w : World} {F : Nat → Prop} {β : Beta} {a b : Value} {x y : V} (h : VRep w F β a x) (g : VRep w F β b y) : VRep w F β (.tuple #[a, b]) (.tup [x, y]) :=
  .tup rfl fun j hj => by
    match j, hj with
    | 0, _ => exact h
    | 1, _ => exact g
theorem atoi_call {s : Str} (h : Nat.ble s.length 281474976710656 = true) : FnL Tryz.prog 92 [vt s] [] (.tup [vi (atoiL s).1, errV 253 (atoiL s).2]) [] := by
  have hl := Nat.le_of_ble_eq_true h
  refine FnL_lib Tryz.call92 (vs := [.string ⟨⟨s⟩⟩]) fun w F hg => ?_
  obtain ⟨_, cs, T, z, h1, ev, h2, h3⟩ := hg.2 _ (List.Mem.tail _ (List.Mem.tail _ (List.Mem.head _)))
  obtain ⟨_, cs', T', z', h1', ev', h2', h3'⟩ := hg.2 _ (List.Mem.tail _ (List.Mem.tail _ (List.Mem.tail _ (List.Mem.head _))))
  cases hs : Lib.atoiAll s with
  | ok v =>
    refine (Any.strconv_Atoi_ok txAtoi ⟨⟨s⟩⟩ (by show s.length ≤ _; omega) v hs w).mono ?_
    rintro e w' ⟨rfl, hw⟩
    refine ⟨_, rfl, ?_, fun β => ?_⟩
    · rcases hw with rfl | ⟨t, rfl⟩
      · exact RowKit.Below.refl _ _
      · exact ⟨by simp [Lib.bytesWorld, World.freeze, World.alloc, World.drew, -World.alloc_eq, -World.drew_eq], by simp [Lib.bytesWorld, World.freeze, World.alloc, World.drew, -World.alloc_eq, -World.drew_eq], by simp [Lib.bytesWorld, World.freeze, World.alloc, World.drew, -World.alloc_eq, -World.drew_eq], by rw [Lib.bytesWorld_size]; omega, fun b hb => Lib.bytesWorld_at_old _ _ _ b hb⟩
    · rw [atoiL, hs]
      exact vrep_pair (.fr (.p rfl)) (.fr (.p rfl))
  | range =>
    refine (Any.strconv_Atoi_range txAtoi ⟨⟨s⟩⟩ (by show s.length ≤ _; omega) hs ev' w ((cell_of h1').trans h2') h3').mono ?_
    rintro e w' ⟨N, rfl, _, _, hb⟩
    refine ⟨_, rfl, hb, fun β => ?_⟩
    rw [atoiL, hs]
    exact vrep_pair (.fr (.p rfl)) (.iface .undef)
  | _ =>
    refine (Any.strconv_Atoi_syntax txAtoi ⟨⟨s⟩⟩ (by show s.length ≤ _; omega) hs ev w ((cell_of h1).trans h2) h3).mono ?_
    rintro e w' ⟨N, rfl, _, _, hb⟩
    refine ⟨_, rfl, hb, fun β => ?_⟩
    rw [atoiL, hs]
    exact vrep_pair (.fr (.p rfl)) (.iface .undef)
theorem split_call {s : Str} {c : UInt8} (h : Nat.blt s.length 4294967281 = true) : FnL Tryz.prog 39 [vt s, vt [c]] [] (eS 1 vt (splitL c s)) [] := by
  have hl : s.length < 4294967281 := Nat.le_of_ble_eq_true h
  refine FnL_lib Tryz.call39 (vs := [.string ⟨⟨s⟩⟩, .string ⟨⟨[c]⟩⟩]) fun w F hg => ?_
  obtain ⟨_, cs, T, z, h1, m, h2⟩ := hg.2 _ (List.Mem.tail _ (List.Mem.head _))
  refine (Any.strings_Split txSplit (by kernel_rfl) ⟨⟨s⟩⟩ ⟨⟨[c]⟩⟩ m w hl ((cell_of h1).trans h2) (Nat.le_refl 1)).mono ?_
  rintro e w' ⟨rfl, rfl⟩
  have hk := Lib.splitB_all ⟨⟨[c]⟩⟩ (Nat.le_refl 1) 0 _ ⟨⟨s⟩⟩ rfl
  have hlen : (splitL c s).length = Lib.countB ⟨⟨s⟩⟩ ⟨⟨[c]⟩⟩ + 1 := by
    have := congrArg List.length (splitB_one c s)
    simp only [List.length_map] at this
    rw [← this, hk]
  refine ⟨_, rfl, ⟨rfl, rfl, rfl, by simp, fun b hb => heap_alloc_old w _ hb⟩, fun β => .fr ?_⟩
  rw [← hlen]
  exact frep_strings (.inr ⟨Nat.le_refl _, by simp⟩) (Nat.le_refl _) (by rw [splitB_one]; exact heap_alloc_new w _)
theorem join_cells {w : World} {b off cap : Nat} {l : List Str} {sep : Str} (hb : b < w.heap.size) (hcap : l.length ≤ cap) (hc : ∀ j s, l[j]? = some s → w.cell? ⟨b, off + j, none⟩ = some (.string ⟨⟨s⟩⟩))
    (h1 : l.length ≤ 140737488355328) (h2 : (joinL l sep).length ≤ 140737488355328) :
    Calls Tryz.prog 37 #[.slice (some ⟨b, off, none⟩) l.length cap, .string ⟨⟨sep⟩⟩] w fun e w' => e = .returned (.string ⟨⟨joinL l sep⟩⟩) ∧ RowKit.Below w.heap.size w w' := by
  have hm : ((l.map fun s => (⟨⟨s⟩⟩ : ByteArray)).map fun x => x.data.toList) = l := by rw [List.map_map]; exact List.map_id _
  have := Any.strings_Join txJoin txExtra b off cap (l.map fun s => ⟨⟨s⟩⟩) ⟨⟨sep⟩⟩ w (fun j x hx => by
    rw [List.getElem?_map, Option.map_eq_some_iff] at hx
    obtain ⟨s, h, rfl⟩ := hx
    exact hc j s h) hb (by simpa using h1) (by simpa using hcap) (by rw [hm]; exact h2)
  rw [hm, List.length_map] at this
  exact this
theorem join_call {l : List Str} {sep : Str} (h1 : Nat.ble l.length 140737488355328 = true) (h2 : Nat.ble (joinL l sep).length 140737488355328 = true) : FnL Tryz.prog 37 [eS 1 vt l, vt sep] [] (vt (joinL l sep)) [] := by
  have h1 := Nat.le_of_ble_eq_true h1
  have h2 := Nat.le_of_ble_eq_true h2
  refine ⟨Tryz.call37, Nat.le_refl _, fun j hj => by simp at hj, fun w F β args hr hc => ?_⟩
  obtain ⟨hs, hv⟩ := hc
  obtain ⟨v, u, rfl⟩ : ∃ v u, args = #[v, u] := by
    have : args.toList.length = 2 := by simpa using hs
    match hL : args.toList, this with
    | [v, u], _ => exact ⟨v, u, Array.ext' (by simpa using hL)⟩
  have hv0 : VRep w F β v (eS 1 vt l) := hv 0 (by simp)
  have hv1 : VRep w F β u (vt sep) := hv 1 (by simp)
  have hu := hv1.p_inv.1
  subst hu
  have hf : FRep w F v (eS 1 vt l) := by
    have h' : VRep w F β v (.sl 1 (l.map vt)) := hv0
    cases h' with
    | fr h => exact h
  rcases strings_cells hf with ⟨a, cap, rfl, rfl⟩ | ⟨b, off, cap, hF, hcap, rfl, hcell⟩
  · refine (Any.strings_Join_none txJoin txExtra a cap ⟨⟨sep⟩⟩ w).mono ?_
    rintro e w' ⟨rfl, rfl⟩
    exact ⟨_, F, β, rfl, hr, .fr (.p rfl), Evolve.refl _ _ _ _⟩
  · refine (join_cells (sep := sep) (hr.falloc b hF) hcap hcell h1 h2).mono ?_
    rintro e w' ⟨rfl, hb⟩
    obtain ⟨r1, ev⟩ := hr.fresh hb
    exact ⟨_, _, β, rfl, r1, .fr (.p rfl), ev⟩
theorem join_callO {l : List Str} {sep : Str} (h1 : Nat.ble l.length 140737488355328 = true) (h2 : Nat.ble (joinL l sep).length 140737488355328 = true) : FnL Tryz.prog 37 [.own 0 0 l.length, vt sep] [some (.row 1 (List.map vt l))] (vt (joinL l sep)) [some (.row 1 (List.map vt l))] := by
  have h1 := Nat.le_of_ble_eq_true h1
  have h2 := Nat.le_of_ble_eq_true h2
  refine ⟨Tryz.call37, Nat.le_refl _, fun j hj => ?_, fun w F β args hr hc => ?_⟩
  · have : j = 0 := by simpa using hj
    subst this
    simp [oget]
  obtain ⟨hs, hv⟩ := hc
  obtain ⟨v, u, rfl⟩ : ∃ v u, args = #[v, u] := by
    have : args.toList.length = 2 := by simpa using hs
    match hL : args.toList, this with
    | [v, u], _ => exact ⟨v, u, Array.ext' (by simpa using hL)⟩
  have hv0 : VRep w F β v (.own 0 0 l.length) := hv 0 (by simp)
  have hv1 : VRep w F β u (vt sep) := hv 1 (by simp)
  have hu := hv1.p_inv.1
  subst hu
  have h0 : oget [some (AObj.row 1 (List.map vt l))] 0 = some (.row 1 (List.map vt l)) := rfl
  have hat : SlAt w F β 1 v (List.map vt l) := by
    have := hv0.own_at hr h0 (by simp)
    rwa [List.drop_zero, List.take_of_length_le (by simp)] at this
  obtain ⟨a, cap, rfl, hrow⟩ := hat
  rw [List.length_map]
  rcases hrow with hnil | ⟨b, p, rfl, _, _, hcell⟩
  · have : l = [] := by
      cases l with
      | nil => rfl
      | cons _ _ => cases hnil
    subst this
    refine (Any.strings_Join_none txJoin txExtra a cap ⟨⟨sep⟩⟩ w).mono ?_
    rintro e w' ⟨rfl, rfl⟩
    exact ⟨_, F, β, rfl, hr, .fr (.p rfl), Evolve.refl _ _ _ _⟩
  · by_cases hl0 : l = []
    · subst hl0
      refine (Any.strings_Join_none txJoin txExtra _ cap ⟨⟨sep⟩⟩ w).mono ?_
      rintro e w' ⟨rfl, rfl⟩
      exact ⟨_, F, β, rfl, hr, .fr (.p rfl), Evolve.refl _ _ _ _⟩
    · have hpos : 0 < l.length := List.length_pos_iff.2 hl0
      have hcs : ∀ j s, l[j]? = some s → w.cell? ⟨b, p + j, none⟩ = some (.string ⟨⟨s⟩⟩) := fun j s hj => by
        have hj' : j < l.length := by
          rcases Nat.lt_or_ge j l.length with h | h
          · exact h
          · rw [List.getElem?_eq_none h] at hj; cases hj
        obtain ⟨q, g1, g2⟩ := hcell j 0 (by simpa using hj') Nat.one_pos
        have e : nth (nth (l.map vt) j).flat 0 = vt s := by
          have : nth (l.map vt) j = vt s := by simp [nth, List.getD, hj]
          rw [this]; rfl
        rw [e] at g2
        have := g2.p_inv.1
        rw [Nat.mul_one, Nat.add_zero] at g1
        rw [g1, this]
      have hb : b < w.heap.size := by
        obtain ⟨s0, hs0⟩ : ∃ s0, l[0]? = some s0 := ⟨l[0], List.getElem?_eq_getElem hpos⟩
        exact World.block_lt_of_cell? _ _ (hcs 0 s0 hs0)
      have hcap : l.length ≤ cap := by
        rcases hv0.own_inv with ⟨_, _, _, _, _, _, g, _, e⟩ | ⟨_, _, hz, _, _⟩
        · rw [List.length_map] at e; cases e; exact g
        · omega
      refine (join_cells (sep := sep) hb hcap hcs h1 h2).mono ?_
      rintro e w' ⟨rfl, hbl⟩
      obtain ⟨r1, ev⟩ := hr.fresh hbl
      exact ⟨_, _, β, rfl, r1, .fr (.p rfl), ev⟩
end
section
open Go Go.Proofs Go.Shelf Go.RowKit
section
variable {P : Program} {w : World} {F : Nat → Prop} {β : Beta} {σ : Sig} {Av : Nat → Prop}
theorem Rep.virtB (hr : Rep w F β σ Av) {nn : Nat} (hnn : Av nn) (T : TypeId) : Rep w F (upd β nn (some .virt)) (upd σ nn (some (.bld T (vt [])))) (fun n => Av n ∧ n ≠ nn) ∧
    Evolve w F β σ w F (upd β nn (some .virt)) (upd σ nn (some (.bld T (vt [])))) := by
  refine hr.change nn (.bld T (vt [])) .virt rfl rfl rfl (Nat.le_refl _) ?_ ?_ ?_ (by simp) rfl ?_ ?_ ?_ (fun _ _ _ => rfl)
  · intro n l h
    rw [upd_other]; exact h
    rintro rfl; rw [hr.dom n hnn] at h; cases h
  · intro n hn; rw [upd_other _ _ hn.2]; exact hr.dom n hn.1
  · intro m o hm
    by_cases h : m = nn
    · subst h; simp at hm; exact .inl ⟨rfl, hm.symm⟩
    · rw [upd_other _ _ h] at hm; exact .inr ⟨h, hm⟩
  · intro b hb; cases hb
  · intro m o l b _ _ _ _ e; cases e
  · intro b hb; cases hb
theorem Rep.alloc_bld (hr : Rep w F β σ Av) {n0 n1 : Nat} (h0 : Av n0) (hv : β n1 = some .virt) (T : TypeId) :
    Rep (w.alloc (.cells #[.pointer none, .slice none 0 0] T)) F (upd β n0 (some (.mp w.heap.size))) (upd σ n0 (some (.bld T (.own n1 0 0)))) (fun n => Av n ∧ n ≠ n0) ∧
    Evolve w F β σ (w.alloc (.cells #[.pointer none, .slice none 0 0] T)) F (upd β n0 (some (.mp w.heap.size))) (upd σ n0 (some (.bld T (.own n1 0 0)))) := by
  have hne : n1 ≠ n0 := by rintro rfl; rw [hr.dom _ h0] at hv; cases hv
  refine hr.change n0 (.bld T (.own n1 0 0)) (.mp w.heap.size) rfl rfl rfl (by simp) ?_ ?_ ?_ (by simp) ?_ ?_ ?_ ?_ (fun b hb _ => heap_alloc_old w _ hb)
  · intro n l h
    rw [upd_other]; exact h
    rintro rfl; rw [hr.dom n h0] at h; cases h
  · intro n hn; rw [upd_other _ _ hn.2]; exact hr.dom n hn.1
  · intro m o hm
    by_cases h : m = n0
    · subst h; simp at hm; exact .inl ⟨rfl, hm.symm⟩
    · rw [upd_other _ _ h] at hm; exact .inr ⟨h, hm⟩
  · exact ⟨_, _, n1, 0, rfl, heap_alloc_new w _, .inl rfl, .inl ⟨by rw [upd_other _ _ hne]; exact hv, rfl, rfl⟩⟩
  · intro b hb
    simp only [Loc.block, Option.some.injEq] at hb
    subst hb
    exact ⟨fun h => absurd (hr.falloc _ h) (by omega), by simp⟩
  · intro m o l b hm hs hl hb e
    simp only [Loc.block, Option.some.injEq] at e
    rw [upd_other _ _ hm] at hs
    obtain ⟨l', h1, _, h3⟩ := hr.obj m o hs
    rw [hl] at h1; cases h1
    have := (h3 b hb).2
    omega
  · intro b hb hlt
    simp only [Loc.block, Option.some.injEq] at hb
    omega
theorem Rep.write_mp (hr : Rep w F β σ Av) {n b : Nat} {o o' : AObj} (hn : σ n = some o) (hb : β n = some (.mp b)) (cs' : Array Value) (ho : ORep (w.setRow b cs') F β (.mp b) o') :
    Rep (w.setRow b cs') F β (upd σ n (some o')) Av ∧ Evolve w F β σ (w.setRow b cs') F β (upd σ n (some o')) := by
  obtain ⟨l, hl, _, hblk⟩ := hr.obj n _ hn
  rw [hb] at hl; cases hl
  have hFb := hblk b rfl
  have hheap : ∀ c, c ≠ b → (w.setRow b cs').heap[c]? = w.heap[c]? := fun c hc => setRow_other w b c cs' hc
  refine hr.change n o' (.mp b) rfl rfl rfl (by simp) (fun _ _ h => h) hr.dom ?_ hb ho ?_ ?_ ?_ ?_
  · intro m o hm
    by_cases h : m = n
    · subst h; simp at hm; exact .inl ⟨rfl, hm.symm⟩
    · rw [upd_other _ _ h] at hm; exact .inr ⟨h, hm⟩
  · intro c hc'
    simp only [Loc.block, Option.some.injEq] at hc'
    subst hc'
    exact ⟨hFb.1, by simpa using hFb.2⟩
  · intro m o l c hm hs hl hb' e
    simp only [Loc.block, Option.some.injEq] at e
    subst e
    rw [upd_other _ _ hm] at hs
    exact hm (hr.sep m n o _ l _ _ hs hn hl hb hb' rfl)
  · intro c hc' _
    exact ⟨n, _, _, hn, hb, hc'⟩
  · intro c _ hc'
    exact hheap c (fun e => hc' (by simp [Loc.block, e]))
theorem Rep.retype (hr : Rep w F β σ Av) {n : Nat} {l : Loc} {o o' : AObj} (hn : σ n = some o) (hb : β n = some l) (ho : ORep w F β l o') :
    Rep w F β (upd σ n (some o')) Av ∧ Evolve w F β σ w F β (upd σ n (some o')) := by
  have key : ∀ m q, upd σ n (some o') m = some q → ∃ q', σ m = some q' ∧ ((m = n ∧ q = o') ∨ (m ≠ n ∧ q' = q)) := by
    intro m q h
    by_cases e : m = n
    · subst e
      rw [upd_same] at h; cases h
      exact ⟨o, hn, .inl ⟨rfl, rfl⟩⟩
    · rw [upd_other _ _ e] at h
      exact ⟨q, h, .inr ⟨e, rfl⟩⟩
  refine ⟨⟨hr.falloc, hr.dom, fun m q h => ?_, fun m m' q q' l1 l2 b h1 h2 => ?_, hr.gl⟩, ⟨rfl, rfl, rfl, Nat.le_refl _, fun _ _ h => h, fun _ h => h, fun _ _ _ => rfl, fun _ _ h => .inl h, ?_⟩⟩
  · obtain ⟨q', h1, h2⟩ := key m q h
    obtain ⟨l', g1, g2, g3⟩ := hr.obj m q' h1
    rcases h2 with ⟨rfl, rfl⟩ | ⟨_, rfl⟩
    · rw [hb] at g1; cases g1
      exact ⟨l, hb, ho, g3⟩
    · exact ⟨l', g1, g2, g3⟩
  · obtain ⟨r1, a1, _⟩ := key m q h1
    obtain ⟨r2, a2, _⟩ := key m' q' h2
    exact hr.sep m m' r1 r2 l1 l2 b a1 a2
  · rintro b _ ⟨m, q, l', h1, h2, h3⟩
    obtain ⟨q', a1, _⟩ := key m q h1
    exact ⟨m, q', l', a1, h2, h3⟩
theorem ORep.buf_row {l : Loc} {T : TypeId} {bs : Str} (h : ORep w F β l (.bld T (vt bs))) (hl : ∀ b, l ≠ .mp b) : ORep w F β l (.row 1 (bs.map vbyte)) := by
  cases l with
  | «at» b s k sz =>
    obtain ⟨rfl, rfl, l, cs, hx, h1, h2, h3, h4, h5, h6⟩ := h
    cases hx
    refine ⟨rfl, cs, T, h1, h2, Nat.one_pos, by simpa using h3, fun i hi => ?_, fun i j hi hj => ?_⟩
    · have hi' : i < bs.length := by simpa using hi
      have : nth (bs.map vbyte) i = vbyte bs[i] := by simp [nth, List.getD, List.getElem?_map, List.getElem?_eq_getElem hi']
      rw [this]
      exact ⟨rfl, by simp [V.flat, vbyte, one]⟩
    · have hi' : i < bs.length := by simpa using hi
      have hj0 : j = 0 := by omega
      subst hj0
      have e1 : nth (bs.map vbyte) i = vbyte bs[i] := by simp [nth, List.getD, List.getElem?_map, List.getElem?_eq_getElem hi']
      have e2 : cs.getD (0 + i * 1 + 0) Go.undef = .int .u8 (bs[i].toNat : Int) := by
        have : cs.toList[i]? = some (.int .u8 (bs[i].toNat : Int)) := by
          have h7 := congrArg (fun q => q[i]?) h6
          simp only [List.getElem?_take, List.getElem?_map, List.getElem?_eq_getElem hi', hi', if_true, Option.map_some] at h7
          exact h7
        simp only [Array.getElem?_toList] at this
        simp [Array.getD_eq_getD_getElem?, this]
      rw [e1, e2]
      exact .fr (.p rfl)
  | virt =>
    have : vt bs = vt [] := h
    cases this
    rfl
  | mp b => exact (hl b rfl).elim
end
theorem txCC : Go.Proofs.Lays.n240 Tryz.prog txJoinR := { txJoin with }
set_option maxHeartbeats 4000000 in
set_option maxRecDepth 100000 in
theorem ws_raw (b : Nat) (w w1 w2 : World) (v u : Value) (ra : Option Addr) (rn rc : Nat) (s : ByteArray)
    (hc : Calls Tryz.prog 110 #[.pointer (some ⟨b, 0, none⟩)] w fun e w' => e = .returned (.tuple #[]) ∧ w' = w1)
    (hv : w1.cell? ⟨b, 1, none⟩ = some v)
    (hr : (Builtin.append_ #[114, 9] 114 #[v, .string s]).run Tryz.prog w1 = .ok (.slice ra rn rc) w2)
    (hu : w2.cell? ⟨b, 1, none⟩ = some u) (hf : w2.frozen? ⟨b, 1, none⟩ = false) :
    Calls Tryz.prog 58 #[.pointer (some ⟨b, 0, none⟩), .string s] w fun e w' => e = .returned (.tuple #[.int .i64 s.size, .nilIface]) ∧ w' = w2.setCell ⟨b, 1, none⟩ (.slice ra rn rc) := by
  refine calls_of_wp Tryz.func58 rfl ?_
  simp only [Tryz.ntmps58, List.size_toArray, List.length_cons, List.length_nil, Nat.reduceAdd, Nat.reduceSub, Array.replicate_succ, Array.replicate_zero, List.push_toArray, List.append_toArray, List.nil_append, List.cons_append]
  have mixed : Tryz.prog.follows .mixedOrders = true := by kernel_rfl
  have e110 : ∀ args w, (callFunc 110 args).run Tryz.prog w = .ok (.enter 110 args) w := Tryz.call110
  go_wp2_with (go_at_call 110; refine hc.mono ?_)
  rintro e w' ⟨rfl, rfl⟩
  go_wp2_with (at_builtin; refine Lib.wpList_append_run _ rfl _ _ _ _ rfl _ _ rfl rfl _ _ hr ?_)
  go_ret2
  exact ⟨rfl, rfl⟩
set_option maxHeartbeats 4000000 in
set_option maxRecDepth 100000 in
theorem bs_raw (b : Nat) (w w2 : World) (a : Option Addr) (n c : Nat) (r p : Value)
    (hv : w.cell? ⟨b, 1, none⟩ = some (.slice a n c))
    (hSD : (Builtin.unsafeSliceData_ #[114] 187 #[.slice a n c]).run Tryz.prog w.drew = .ok p w.drew)
    (hUS : (Builtin.unsafeString_ #[187, 3] 9 #[p, .int .i64 n]).run Tryz.prog w.drew = .ok r w2) :
    Calls Tryz.prog 60 #[.pointer (some ⟨b, 0, none⟩)] w fun e w' => e = .returned r ∧ w' = w2 := by
  have c1 : w.drew.cell? ⟨b, 1, none⟩ = some (.slice a n c) := hv
  refine calls_of_wp Tryz.func60 rfl ?_
  simp only [Tryz.ntmps60, List.size_toArray, List.length_cons, List.length_nil, Nat.reduceAdd, Nat.reduceSub, Array.replicate_succ, Array.replicate_zero, List.push_toArray, List.append_toArray, List.nil_append, List.cons_append]
  have mixed : Tryz.prog.follows .mixedOrders = true := by kernel_rfl
  go_wp2
  go_region_o
  all_goals (go_wp2; go_ret; exact ⟨rfl, rfl⟩)
theorem upd2_list (a b : Option AObj) (o o' : Option AObj) : upd (upd (oget [a, b]) 1 none) 2 o' = oget [a, none, o'] := by
  funext m
  match m with
  | 0 => rfl
  | 1 => rfl
  | 2 => rfl
  | m + 3 => rfl
theorem upd0_list3 (a b c a' : Option AObj) : upd (oget [a, b, c]) 0 a' = oget [a', b, c] := by
  funext m
  match m with
  | 0 => rfl
  | 1 => rfl
  | 2 => rfl
  | m + 3 => rfl
theorem upd0_list2 (a b a' : Option AObj) : upd (oget [a, b]) 0 a' = oget [a', b] := by
  funext m
  match m with
  | 0 => rfl
  | 1 => rfl
  | m + 2 => rfl
theorem upd1_list2 (a b b' : Option AObj) : upd (oget [a, b]) 1 b' = oget [a, b'] := by
  funext m
  match m with
  | 0 => rfl
  | 1 => rfl
  | m + 2 => rfl
theorem upd2_list3 (a b c c' : Option AObj) : upd (oget [a, b, c]) 2 c' = oget [a, b, c'] := by
  funext m
  match m with
  | 0 => rfl
  | 1 => rfl
  | 2 => rfl
  | m + 3 => rfl
theorem args1 {args : Array Value} {w : World} {F : Nat → Prop} {β : Beta} {x : V} (hc : CellsRep w F β args [x]) : ∃ v, args = #[v] ∧ VRep w F β v x := by
  obtain ⟨hs, hv⟩ := hc
  obtain ⟨v, rfl⟩ : ∃ v, args = #[v] := by
    have : args.toList.length = 1 := by simpa using hs
    match hL : args.toList, this with
    | [v], _ => exact ⟨v, Array.ext' (by simpa using hL)⟩
  exact ⟨v, rfl, hv 0 (by simp)⟩
theorem args2 {args : Array Value} {w : World} {F : Nat → Prop} {β : Beta} {x y : V} (hc : CellsRep w F β args [x, y]) : ∃ v u, args = #[v, u] ∧ VRep w F β v x ∧ VRep w F β u y := by
  obtain ⟨hs, hv⟩ := hc
  obtain ⟨v, u, rfl⟩ : ∃ v u, args = #[v, u] := by
    have : args.toList.length = 2 := by simpa using hs
    match hL : args.toList, this with
    | [v, u], _ => exact ⟨v, u, Array.ext' (by simpa using hL)⟩
  exact ⟨v, u, rfl, hv 0 (by simp), hv 1 (by simp)⟩
theorem wstr_call {bs s : Str} (h0 : Nat.blt 0 s.length = true) (hroom : Nat.ble (bs.length + s.length) 140737488355328 = true) :
    FnL Tryz.prog 58 [.itp 0, vt s] [some (.bld 116 (.own 1 0 bs.length)), some (.bld 5 (vt bs))] (.tup [vi s.length, .p .nilIface]) [some (.bld 116 (.own 2 0 (bs ++ s).length)), none, some (.bld 5 (vt (bs ++ s)))] := by
  have h0 : 0 < s.length := Nat.le_of_ble_eq_true h0
  have hroom := Nat.le_of_ble_eq_true hroom
  refine ⟨Tryz.call58, by simp, fun j hj => ?_, fun w F β args hr hc => ?_⟩
  · match j, hj with
    | 0, _ => simp [oget]
    | 1, _ => simp [oget]
  obtain ⟨v0, u, rfl, hv0, hu⟩ := args2 hc
  obtain ⟨b, rfl, hb⟩ := hv0.itp_inv
  obtain ⟨rfl, _⟩ := hu.p_inv
  obtain ⟨l0, hl0, ho0, hk0⟩ := hr.obj 0 _ rfl
  rw [hb] at hl0; cases hl0
  obtain ⟨p, v, n, len, hx, hbk, hp, hv⟩ := ho0
  cases hx
  obtain ⟨l1, hl1, ho1, hk1⟩ := hr.obj 1 _ rfl
  have hgb : ∀ g sz, β 1 = some (.at g 0 1 sz) → g ≠ b := by
    rintro g sz e rfl
    have := hr.sep 1 0 _ _ _ _ _ rfl rfl e hb rfl rfl
    omega
  obtain ⟨w1, hcc, r1, ev1, hbk1⟩ : ∃ w1, (Calls Tryz.prog 110 #[.pointer (some ⟨b, 0, none⟩)] w fun e w' => e = .returned (.tuple #[]) ∧ w' = w1) ∧ Rep w1 F β (oget [some (.bld 116 (.own 1 0 bs.length)), some (.bld 5 (vt bs))]) (fun n => 2 ≤ n) ∧
      Evolve w F β (oget [some (.bld 116 (.own 1 0 bs.length)), some (.bld 5 (vt bs))]) w1 F β (oget [some (.bld 116 (.own 1 0 bs.length)), some (.bld 5 (vt bs))]) ∧ w1.heap[b]? = some (.cells #[.pointer (some ⟨b, 0, none⟩), v] 116 (0, 0)) := by
    rcases hp with rfl | rfl
    · have hset := setCell_setRow (off := 0) hbk (.pointer (some ⟨b, 0, none⟩))
      have hbk1 := getD_setRow_heap w b _ _ #[.pointer (some ⟨b, 0, none⟩), v] hbk
      have hw := hr.write_mp (n := 0) (o' := .bld 116 (.own 1 0 bs.length)) rfl hb #[.pointer (some ⟨b, 0, none⟩), v] ⟨_, _, _, _, rfl, hbk1, .inr rfl, hv⟩
      rw [upd0_list2] at hw
      refine ⟨_, ?_, hw.1, hw.2, hbk1⟩
      have := Any.Builder_copyCheck_fresh txCC txExtra.toX72 b w (by simp [World.cell?, hbk]) (by simp [World.shape?, hbk]; rfl) (by simp [World.frozen?, hbk])
      rw [hset] at this
      exact this
    · exact ⟨w, Any.Builder_copyCheck_used txCC txExtra.toX72 b w (by simp [World.cell?, hbk]), hr, Evolve.refl _ _ _ _, hbk⟩
  obtain ⟨l1', hl1', ho1', _⟩ := r1.obj 1 _ rfl
  rw [hl1] at hl1'; cases hl1'
  obtain ⟨i0, hi, hz0, hz1, hz2⟩ := info_parts txExtra.infoByte
  have hown : w1.ownsRow 0 5 1 v bs.length (Lib.byteCells bs) := by
    refine ⟨by simp [Lib.byteCells_length], ?_⟩
    rcases hv with ⟨e, h1, rfl⟩ | ⟨g, sz, e, rfl⟩
    · exact .inl ⟨rfl, h1⟩
    · rw [e] at hl1; cases hl1
      obtain ⟨_, _, l, cs, hx, h1, h2, h3, h4, h5, h6⟩ := ho1'
      cases hx
      exact .inr ⟨g, sz, cs, rfl, Nat.zero_le _, h1, h3, by simpa [maxLen] using h5, by omega, by rw [Nat.mul_one]; exact h6⟩
  obtain ⟨v', w2, hrun, hown', hgrow, _⟩ := Lib.run_append_own_string (P := Tryz.prog) w1 0 114 9 114 5 i0 Tryz.underlying114 Tryz.underlying9 hi hz0 hz1 hz2 v bs.length (Lib.byteCells bs) hown ⟨⟨s⟩⟩ (by simp [maxLen, ByteArray.size]; omega) (by simp [ByteArray.size]; omega) (Nat.zero_le _)
  have hlne : ∀ b, l1 ≠ .mp b := by
    rintro b rfl
    rcases hv with ⟨e, _⟩ | ⟨g, sz, e, _⟩ <;> (rw [e] at hl1; cases hl1)
  obtain ⟨r2, ev2⟩ := r1.retype (n := 1) rfl hl1 (ho1'.buf_row hlne)
  rw [upd1_list2] at r2 ev2
  have hvr : VRep w1 F β v (.own 1 0 bs.length) := by
    rcases hv with ⟨e, h1, rfl⟩ | ⟨g, sz, e, rfl⟩
    · rw [h1]; exact .ownv e
    · rw [e] at hl1; cases hl1
      obtain ⟨_, _, l, cs, hx, _, _, h3, _⟩ := ho1'
      cases hx
      have := VRep.own (w := w1) (F := F) (β := β) (n := 1) (off := 0) (len := bs.length) (b := g) (s := 0) (k := 1) (sz := sz) (cap := sz) e h3 (by omega)
      simpa using this
  have hel : elemsOf 1 (oget [some (AObj.bld 116 (.own 1 0 bs.length)), some (.row 1 (bs.map vbyte))]) (vt s) = some (s.map vbyte, [], true) := rfl
  obtain ⟨v2, w2', F2, β2, hrun2, r3, hv3, ev3⟩ := snd_app_own (P := Tryz.prog) (t := 114) (u := 9) (ty := 114) (k := 1) (by_ := 1) (z := .p (.int .u8 0)) r2 (nn := 2) (Nat.le_refl 2) (by kernel_rfl) (.inr Tryz.underlying9) rfl hvr (by simp) (.fr (.p rfl) : VRep w1 F β (.string ⟨⟨s⟩⟩) (vt s)) hel (by simpa using hroom) (by simp; omega)
  rw [hrun] at hrun2
  injection hrun2 with e1 e2
  subst e1; subst e2
  rw [upd2_list _ _ none, List.drop_zero, ← List.map_append] at r3 ev3
  obtain ⟨l3, hl3, ho3, hk3⟩ := r3.obj 2 _ rfl
  have hlen : (bs ++ s).length = bs.length + s.length := List.length_append
  have hss : (⟨⟨s⟩⟩ : ByteArray).size = s.length := rfl
  rw [hss] at hown'
  obtain ⟨_, h | ⟨g, sz, cur, rfl, _, g1, g2, g3, g4, g5⟩⟩ := hown'
  · omega
  have hat : l3 = .at g 0 1 sz := by
    rcases hv3.own_inv with ⟨b', s', k', sz', cap', e1, e2, e3, e4⟩ | ⟨_, _, e, _⟩
    · rw [hl3] at e1; cases e1
      obtain ⟨hk, cs, T, a1, a2, _⟩ := ho3
      simp only [Value.slice.injEq, Option.some.injEq, Addr.mk.injEq, Nat.zero_mul, Nat.add_zero, and_true] at e4
      obtain ⟨⟨rfl, rfl⟩, _, rfl⟩ := e4
      subst hk
      rw [g1] at a1; cases a1
      have : sz' = sz := by omega
      rw [this]
    · simp only [List.length_map] at e; omega
  subst hat
  have ho4 : ORep w2 F2 β2 (.at g 0 1 sz) (.bld 5 (vt (bs ++ s))) := by
    refine ⟨rfl, rfl, bs ++ s, cur, rfl, g1, by omega, by omega, by omega, by simpa [maxLen] using g3, ?_⟩
    rw [hlen, ← Nat.mul_one (bs.length + s.length), g5, Lib.strCells_eq, ← Lib.byteCells_append]
    rfl
  obtain ⟨r4, ev4⟩ := r3.retype (n := 2) rfl hl3 ho4
  rw [upd2_list3] at r4 ev4
  have hb2 : β2 0 = some (.mp b) := ev3.beta _ _ hb
  have hblt : b < w1.heap.size := (Array.getElem?_eq_some_iff.1 hbk1).1
  have hbk2 : w2.heap[b]? = some (.cells #[.pointer (some ⟨b, 0, none⟩), v] 116 (0, 0)) := by
    rw [hgrow.block b hblt ?_]; exact hbk1
    rcases hv with ⟨e, h1, rfl⟩ | ⟨g', sz', e, rfl⟩
    · simp [Value.ownBlock]
    · simpa [Value.ownBlock] using (hgb g' sz' e).symm
  have hbk3 := getD_setRow_heap w2 b _ _ #[.pointer (some ⟨b, 0, none⟩), .slice (some ⟨g, 0, none⟩) (bs.length + s.length) sz] hbk2
  obtain ⟨r5, ev5⟩ := r4.write_mp (n := 0) (o' := .bld 116 (.own 2 0 (bs ++ s).length)) rfl hb2 #[.pointer (some ⟨b, 0, none⟩), .slice (some ⟨g, 0, none⟩) (bs.length + s.length) sz] ⟨_, _, _, _, rfl, hbk3, .inr rfl, .inr ⟨g, sz, hl3, by rw [hlen]⟩⟩
  rw [upd0_list3] at r5 ev5
  refine (ws_raw b w w1 w2 v v (some ⟨g, 0, none⟩) (bs.length + s.length) sz ⟨⟨s⟩⟩ hcc (by simp [World.cell?, hbk1]) hrun (by simp [World.cell?, hbk2]) (by simp [World.frozen?, hbk2])).mono ?_
  rintro e w' ⟨rfl, rfl⟩
  rw [setCell_setRow (off := 1) hbk2]
  refine ⟨_, F2, β2, rfl, r5.av_mono fun n hn => ?_, ?_, (ev1.trans (ev2.trans (ev3.trans (ev4.trans ev5))))⟩
  · have h3 : 3 ≤ n := hn
    exact ⟨by omega, by omega⟩
  · refine .tup (by rfl) fun j hj => ?_
    match j, hj with
    | 0, _ => exact .fr (.p rfl)
    | 1, _ => exact .fr (.p rfl)
theorem bstr_call {bs : Str} : FnL Tryz.prog 60 [.itp 0] [some (.bld 116 (.own 1 0 bs.length)), some (.bld 5 (vt bs))] (vt bs) [none, none] := by
  refine ⟨Tryz.call60, by simp, fun j hj => ?_, fun w F β args hr hc => ?_⟩
  · match j, hj with
    | 0, _ => simp [oget]
    | 1, _ => simp [oget]
  obtain ⟨v0, rfl, hv0⟩ := args1 hc
  obtain ⟨b, rfl, hb⟩ := hv0.itp_inv
  obtain ⟨l0, hl0, ho0, hk0⟩ := hr.obj 0 _ rfl
  rw [hb] at hl0; cases hl0
  obtain ⟨p, v, n, len, hx, hbk, hp, hv⟩ := ho0
  cases hx
  obtain ⟨l1, hl1, ho1, hk1⟩ := hr.obj 1 _ rfl
  have none2 : ∀ m, oget [none, (none : Option AObj)] m = none := by
    intro m
    match m with
    | 0 => rfl
    | 1 => rfl
    | m + 2 => rfl
  have c1 : w.cell? ⟨b, 1, none⟩ = some v := by simp [World.cell?, hbk]
  have fin : ∀ (w' : World), w'.os = w.os → w'.tape = w.tape → w'.output = w.output → w'.heap.size = w.heap.size → (∀ c, c < w.heap.size → (∀ g sz, β 1 = some (.at g 0 1 sz) → c ≠ g) → w'.heap[c]? = w.heap[c]?) →
      Rep w' F β (oget [none, none]) (fun n => 2 ≤ n) ∧ Evolve w F β (oget [some (.bld 116 (.own 1 0 bs.length)), some (.bld 5 (vt bs))]) w' F β (oget [none, none]) := by
    intro w' h1 h2 h3 h4 h5
    have hF : ∀ c, F c → w'.heap[c]? = w.heap[c]? := fun c hc' => h5 c (hr.falloc c hc') (by
      rintro g sz e rfl
      rw [hl1] at e; cases e
      exact (hk1 c rfl).1 hc')
    refine ⟨⟨fun c hc' => by rw [h4]; exact hr.falloc c hc', hr.dom, fun m o h => (by rw [none2] at h; cases h), fun m m' o o' l l' c h => (by rw [none2] at h; cases h), hr.gl.mono (fun _ h => h) hF⟩, ⟨h1, h2, h3, Nat.le_of_eq h4.symm, fun _ _ h => h, fun _ h => h, fun c hc' hn => h5 c hc' ?_, fun _ _ h => .inl h, ?_⟩⟩
    · rintro g sz e rfl
      exact hn ⟨1, _, _, rfl, e, rfl⟩
    · rintro c _ ⟨m, o, l, h, _⟩
      rw [none2] at h; cases h
  rcases hv with ⟨e, h1, rfl⟩ | ⟨g, sz, e, rfl⟩
  · have hbs : bs = [] := List.eq_nil_of_length_eq_zero h1
    subst hbs
    refine (bs_raw b w w.drew none 0 0 (.string .empty) (.pointer none) c1 rfl (Lib.run_unsafeString_none w.drew _ _ _ none)).mono ?_
    rintro e' w' ⟨rfl, rfl⟩
    obtain ⟨a1, a2⟩ := fin w.drew rfl rfl rfl rfl fun _ _ _ => rfl
    exact ⟨_, F, β, rfl, a1, .fr (.p rfl), a2⟩
  · rw [e] at hl1; cases hl1
    obtain ⟨_, _, l, cs, hx, a1, a2, a3, a4, a5, a6⟩ := ho1
    cases hx
    have hSD := Lib.run_unsafeSliceData_row (P := Tryz.prog) w.drew #[114] 187 ⟨g, 0, none⟩ bs.length sz (by omega)
    by_cases hbs : bs = []
    · subst hbs
      refine (bs_raw b w w.drew _ 0 sz (.string .empty) _ c1 hSD (Lib.run_unsafeString_none w.drew _ _ _ _)).mono ?_
      rintro e' w' ⟨rfl, rfl⟩
      obtain ⟨a1, a2⟩ := fin w.drew rfl rfl rfl rfl fun _ _ _ => rfl
      exact ⟨_, F, β, rfl, a1, .fr (.p rfl), a2⟩
    · have hUS := Lib.run_unsafeString_row (P := Tryz.prog) w.drew 187 3 9 5 Tryz.underlying187 txExtra.cellsByte g cs.size (by have hg' : w.drew.heap[g]? = some (.cells cs 5 (0, 0)) := a1; simp [World.shape?, hg']) bs hbs (by omega) (by omega) (fun j x hx => by
        have hj : j < bs.length := (List.getElem?_eq_some_iff.1 hx).1
        have h7 := congrArg (fun q => q[j]?) a6
        simp only [List.getElem?_take, List.getElem?_map, hx, hj, if_true, Option.map_some, Array.getElem?_toList] at h7
        have e1 : ((⟨g, 0, none⟩ : Addr).add j) = ⟨g, j, none⟩ := by
          unfold Addr.add
          by_cases h : j = 0
          · subst h; rfl
          · simp [h]
        rw [e1]
        have hg' : w.drew.heap[g]? = some (.cells cs 5 (0, 0)) := a1
        simp [World.cell?, hg', h7])
      refine (bs_raw b w _ _ bs.length sz _ _ c1 hSD hUS).mono ?_
      rintro e' w' ⟨rfl, rfl⟩
      have hfz : ∀ c, c ≠ g → (w.drew.freeze ⟨g, 0, none⟩ bs.length).heap[c]? = w.heap[c]? := by
        intro c hc'
        unfold World.freeze
        split
        · rfl
        · simp only [Array.getElem?_modify]
          rw [if_neg (by simpa using hc'.symm)]
          rfl
      obtain ⟨a1, a2⟩ := fin (w.drew.freeze ⟨g, 0, none⟩ bs.length) (by unfold World.freeze; split <;> rfl) (by unfold World.freeze; split <;> rfl) (by unfold World.freeze; split <;> rfl) (by unfold World.freeze; split <;> simp <;> rfl) (fun c _ h => hfz c (h g sz e))
      exact ⟨_, F, β, rfl, a1, .fr (.p rfl), a2⟩
end
section
open Go Go.Proofs
variable {P : Program} {sz : Nat} {df : Rd} {m : Nat}
def rawBld (P : Program) (sz : Nat) (ops : Array Oper) (i : Nat) : Option (Option Nat × TypeId) := match ops[i]? with
  | none => none
  | some o => match o.op, o.guard, dstOK sz o.dst with
    | .alloc T, none, true => match (P.info? T).bind (·.zero) with
      | some (.agg cs) => match cs.toList with
        | [.pointer none, .slice none 0 0] => some (o.dst, T)
        | _ => none
      | _ => none
    | _, _, _ => none
theorem RegJ.bldA (T5 : TypeId) {ops : Array Oper} {i : Nat} {S : St} {K : St → Prop} {d : Option Nat} {T : TypeId} (hr : rawBld P sz ops i = some (d, T))
    (k : RegJ P sz df m ops (i + 1) ⟨fputc S.fr d (.itp S.ob.length), S.ob ++ [some (.bld T (.own (S.ob.length + 1) 0 0)), some (.bld T5 (vt []))]⟩ K) : RegJ P sz df m ops i S K := by
  unfold rawBld at hr
  split at hr
  · cases hr
  · rename_i o ho
    split at hr
    · rename_i T' hop hgd hd
      split at hr
      · rename_i cs hz
        split at hr
        · rename_i hcs
          simp only [Option.some.injEq, Prod.mk.injEq] at hr
          obtain ⟨rfl, rfl⟩ := hr
          refine RegJ.oprun0 ho (dstOK_lt hd) ?_ (by simp) k
          intro w F β a Q Kk o' ho' hfr hrep hK
          rw [ho] at ho'; cases ho'
          have hw := wanted_of (fr := fget S.fr) hfr (show guardV ops (fget S.fr) o.guard = some true by rw [hgd]; rfl)
          unfold wpOp
          simp only [ho, hw, if_true]
          left
          obtain ⟨inf, hi, hzv⟩ := Option.bind_eq_some_iff.1 hz
          have hce : cs = #[.pointer none, .slice none 0 0] := Array.ext' hcs
          subst hce
          have hrun : (execOp a.eval o).run P w = .ok (.value (.pointer (some ⟨w.heap.size, 0, none⟩))) (w.alloc (.cells #[.pointer none, .slice none 0 0] T')) := by
            simp [execOp, hop, Instr.alloc, zeroValue, typeInfo, hi, hzv, newVar, newRow, Value.cells]
          unfold Oper.wp
          rw [hrun]
          obtain ⟨r1, e1⟩ := hrep.virtB (nn := S.ob.length + 1) (Nat.le_succ _) T5
          obtain ⟨r2, e2⟩ := r1.alloc_bld (n0 := S.ob.length) (n1 := S.ob.length + 1) ⟨Nat.le_refl _, by omega⟩ (upd_same _ _ _) T'
          have hs : upd (upd (oget S.ob) (S.ob.length + 1) (some (.bld T5 (vt [])))) S.ob.length (some (.bld T' (.own (S.ob.length + 1) 0 0))) = oget (S.ob ++ [some (.bld T' (.own (S.ob.length + 1) 0 0)), some (.bld T5 (vt []))]) := by
            funext n
            rw [show S.ob ++ [some (AObj.bld T' (.own (S.ob.length + 1) 0 0)), some (.bld T5 (vt []))] = (S.ob ++ [some (.bld T' (.own (S.ob.length + 1) 0 0))]) ++ [some (.bld T5 (vt []))] by simp]
            rw [oget_append, oget_append]
            simp only [upd, List.length_append, List.length_cons, List.length_nil, Nat.zero_add]
            by_cases h1 : n = S.ob.length
            · subst h1; simp
            · by_cases h2 : n = S.ob.length + 1
              · subst h2; simp
              · simp [h1, h2]
          rw [hs] at r2 e2
          exact hK _ _ F _ (r2.av_mono fun n hn => by
            have : S.ob.length + 2 ≤ n := by simpa using hn
            exact ⟨⟨by omega, by omega⟩, by omega⟩) (.itp (upd_same _ _ _)) (e1.trans e2)
        · cases hr
      · cases hr
    · cases hr
end
section
open Go Go.Proofs Go.Shelf Go.RowKit
attribute [local go_sem] Oper.semAt_some
def txIBR : Go.Shelf.Ren := ⟨fun | 137 => 118 | 217 => 167 | 266 => 220 | n => n, fun | 9 => 9 | 5 => 5 | 3 => 3 | n => n, fun | n => n⟩
theorem txIB : Go.Proofs.Lays.n137 Tryz.prog txIBR := {
  mixed := by kernel_rfl
  f137 := Tryz.func118.trans (congrArg some (by kernel_rfl))
  f217 := Tryz.func167.trans (congrArg some (by kernel_rfl))
  f266 := Tryz.func220.trans (congrArg some (by kernel_rfl))
  t3 := Tryz.underlying3
  a3 := Tryz.isAgg3
  z3 := Tryz.sizeOf3
  v3 := Tryz.zeroValue3
  t5 := Tryz.underlying5
  a5 := Tryz.isAgg5
  z5 := Tryz.sizeOf5
  v5 := Tryz.zeroValue5
  t9 := Tryz.underlying9
  a9 := Tryz.isAgg9
  z9 := Tryz.sizeOf9
  v9 := Tryz.zeroValue9 }
theorem ib_line : ∀ (r : Str), (Lib.indexByte r 10 = -1 ∧ lineH r = r ∧ lineT r = []) ∨ ∃ i : Nat, Lib.indexByte r 10 = i ∧ i < r.length ∧ lineH r = r.take (i + 1) ∧ lineT r = r.drop (i + 1)
  | [] => .inl ⟨rfl, rfl, rfl⟩
  | c :: r => by
    rw [lineH, lineT]
    unfold Lib.indexByte
    by_cases hc : (c == 10) = true
    · rw [if_pos hc]
      exact .inr ⟨0, rfl, by simp, by simp [hc], by simp [hc]⟩
    · rw [if_neg hc]
      have hc' : (c == 10) = false := by simpa using hc
      rcases ib_line r with ⟨h1, h2, h3⟩ | ⟨i, h1, h2, h3, h4⟩
      · exact .inl ⟨by rw [h1]; rfl, by simp [hc', h2], by simp [hc', h3]⟩
      · refine .inr ⟨i + 1, ?_, by simpa using h2, by simp [hc', h3], by simp [hc', h4]⟩
        rw [h1, if_neg]
        · omega
        · simp only [beq_iff_eq]; omega
theorem ext_take {r : Str} {i : Nat} (h : i ≤ r.length) : (⟨⟨r⟩⟩ : ByteArray).extract 0 i = ⟨⟨r.take i⟩⟩ := by
  apply ByteArray.ext
  rw [ByteArray.data_extract]
  apply Array.ext'
  simp
theorem ext_drop {r : Str} {i : Nat} : (⟨⟨r⟩⟩ : ByteArray).extract i r.length = ⟨⟨r.drop i⟩⟩ := by
  apply ByteArray.ext
  rw [ByteArray.data_extract]
  apply Array.ext'
  simp only [List.extract_toArray, List.extract_eq_take_drop]
  exact List.take_of_length_le (by simp)
def restOf (w : World) (a : Addr) : Nat := match w.cell? a with
  | some (.string s) => s.size
  | _ => 0
set_option maxRecDepth 100000 in
set_option maxHeartbeats 4000000 in
theorem lines1_in (l bc oc : Nat) (J : Str → World → Prop) (Y : Str → Str → World → Prop) (Jx : World → Prop)
    (hJ : ∀ r W, J r W → W.cell? ⟨bc, oc, none⟩ = some (.string ⟨⟨r⟩⟩) ∧ W.frozen? ⟨bc, oc, none⟩ = false) (hD : ∀ r W, J r W → J r W.drew)
    (hS : ∀ r W, J r W → r ≠ [] → Y (lineH r) (lineT r) (W.setCell ⟨bc, oc, none⟩ (.string ⟨⟨lineT r⟩⟩)))
    (hY : ∀ x r W, Y x r W → YieldAt Fence.wide 4 Tryz.prog l #[.string ⟨⟨x⟩⟩] W fun e W' => (e = .returned (.bool true) ∧ J r W') ∨ (e = .returned (.bool false) ∧ Jx W'))
    (r0 : Str) (W : World) (hlen : r0.length ≤ 4611686018427387904) (h0 : J r0 W) : CallsIn Fence.wide 5 Tryz.prog 117 #[.func (.yield l) #[] #[], .pointer (some ⟨bc, oc, none⟩)] W fun e W' => (∃ v, e = .returned v) ∧ (J [] W' ∨ Jx W') := by
  refine callsIn_of_wp Tryz.func117 rfl trivial ?_ rfl
  simp only [Tryz.ntmps117, List.size_toArray, List.length_cons, List.length_nil, Nat.reduceAdd, Nat.reduceSub, Array.replicate_succ, Array.replicate_zero, List.push_toArray, List.append_toArray, List.nil_append, List.cons_append]
  have mixed : Tryz.prog.follows .mixedOrders = true := by kernel_rfl
  have e118 : ∀ args w, (callFunc 118 args).run Tryz.prog w = .ok (.enter 118 args) w := Tryz.call118
  gi_wp2
  gi_loopw [] (fun wr => ∃ r : Str, r.length ≤ 4611686018427387904 ∧ J r wr) (fun wr => restOf wr ⟨bc, oc, none⟩)
  case atStart => exact ⟨r0, hlen, h0⟩
  case round =>
    obtain ⟨r, hl, hj⟩ := hrel
    obtain ⟨hc, hf⟩ := hJ r wr hj
    by_cases hr : r = []
    · subst hr
      gi_wp2
      go_end0
      exact ⟨⟨_, rfl⟩, .inl hj⟩
    · have hpos : 0 < r.length := List.length_pos_iff.2 hr
      have hib : CallsIn Fence.wide 4 Tryz.prog 118 #[.string ⟨⟨r⟩⟩, .int .u8 10] wr fun e w' => e = .returned (.int .i64 (Lib.indexByte r 10)) ∧ w' = wr := callsIn_wide.2 (Any.strings_IndexByte txIB ⟨⟨r⟩⟩ 10 wr)
      gi_wp2
      refine ⟨trivial, hib.mono ?_⟩
      rintro e w' ⟨rfl, rfl⟩
      clear hib
      rcases ib_line r with ⟨h1, h2, h3⟩ | ⟨i, h1, h2, h3, h4⟩
      · rw [h1]
        have hs := hS r w' hj hr
        rw [h2, h3] at hs
        obtain ⟨fn, tmps, assign, body, hy, hR⟩ := hY _ _ _ hs
        clear h1 h2 h3
        gi_wp2
        refine hR.mono ?_
        rintro e W3 (⟨rfl, hJ3⟩ | ⟨rfl, hJx3⟩)
        · gi_wp2
          go_roundw
          case rel => exact ⟨[], by simp, hJ3⟩
          case measure =>
            have := (hJ _ _ hJ3).1
            simp [restOf, hc, this, ByteArray.size, hpos]
        · gi_wp2
          refine bodyPost_ret (results_none rfl _ _ _) rfl ?_
          exact ⟨⟨_, rfl⟩, .inr hJx3⟩
      · rw [h1]
        have hs : Y (lineH r) (lineT r) (w'.setCell ⟨bc, oc, none⟩ (.string ⟨⟨lineT r⟩⟩)).drew := hS r w'.drew (hD r w' hj) hr
        obtain ⟨fn, tmps, assign, body, hy, hR⟩ := hY _ _ _ hs
        have hc2 : w'.drew.cell? ⟨bc, oc, none⟩ = some (.string ⟨⟨r⟩⟩) := hc
        have hf2 : w'.drew.frozen? ⟨bc, oc, none⟩ = false := hf
        have hi0 : ¬ ((i : Int) < 0) := by omega
        have hw1 : IntKind.i64.wrap ((i : Int) + 1) = (i : Int) + 1 := by rw [IntKind.wrap_i64]; omega
        have hb1 : (0 : Int) ≤ (i : Int) + 1 := by omega
        have htn : ((i : Int) + 1).toNat = i + 1 := by omega
        have hle : (i : Int) + 1 ≤ (r.length : Int) := by omega
        have hx1 : (⟨⟨r⟩⟩ : ByteArray).extract 0 (i + 1) = ⟨⟨lineH r⟩⟩ := by rw [ext_take (by omega), h3]
        have hx2 : (⟨⟨r⟩⟩ : ByteArray).extract (i + 1) r.length = ⟨⟨lineT r⟩⟩ := by rw [ext_drop, h4]
        have HT : Hid ((lineT r).length < r.length) := lineT_lt r hr
        clear h1 h3 h4
        gi_wp2
        gi_region_o
        gi_wp2
        refine hR.mono ?_
        rintro e W3 (⟨rfl, hJ3⟩ | ⟨rfl, hJx3⟩)
        · gi_wp2
          go_roundw
          case rel => exact ⟨lineT r, by have := HT.out; omega, hJ3⟩
          case measure =>
            have h5 := (hJ _ _ hJ3).1
            have := HT.out
            simpa [restOf, hc, h5, ByteArray.size] using this
        · gi_wp2
          refine bodyPost_ret (results_none rfl _ _ _) rfl ?_
          exact ⟨⟨_, rfl⟩, .inr hJx3⟩
theorem lines1 : LinesC Tryz.prog 117 := fun l bc oc J Y Jx h1 h2 h3 h4 r W hl h0 =>
  callsIn_wide.2 (callsIn_wide.1 (lines1_in l bc oc J Y Jx h1 h2 h3 (fun x r W h => by
    obtain ⟨fn, tmps, a, b, g1, g2⟩ := h4 x r W h
    exact ⟨fn, tmps, a, b, g1, g2.1, fun c cs _ => g2.2 c cs (room_wide _)⟩) r W hl h0))
end
theorem agraffelaw08_awake_ok (n : Nat) (r : Bool) (h : agraffelaw08_awake n = some r) : FnL Tryz.prog 6 [] [] (vb r) [] := by
 cases h
 exact closed_ok
theorem agraffelaw08_texts_ok (n : Nat) (a0 : List Str) (a1 : Int) (r : Bool) (h : agraffelaw08_texts n a0 a1 = some r) : FnL Tryz.prog 55 [eS 1 vt a0, vi a1] [] (vb r) [] := by
 dsimp only [agraffelaw08_texts] at h
 refine fo [4] Tryz.call55 Tryz.func55 rfl ?_
 refine sk .a ?_
 refine q1 ?_
 refine sj ?_
 refine rk 1 (.k2 (.i 6 (eS 1 vt a0) .n)) ?_
 refine jo 7 (.len 0 6) (ok_len_m rfl) ?_
 refine jk 2 (.d (.k (.i 9 (vb (decide (a1 < (a0.length : Int)))) .n))) ?_
 refine tc h (fun c1 h => ?_) (fun c1 h => ?_)
 ·refine sk (.i 4 (vb false) .n) ?_
  refine q3 ?_
  have h := si h
  subst h
  exact DoneS.ret Sees.refl rfl rfl
 refine q2 ?_
 refine TriE.seqK h (fun (_ : Unit) => St.mk [] []) ?_ ?_
 ·rintro ⟨⟩ h
  refine sk (.i 4 (vb true) .n) ?_
  refine q3 ?_
  have h := si h
  subst h
  exact DoneS.ret Sees.refl rfl rfl
 intro k1 h
 refine sk (.k (.i 5 (vi 0) .n)) ?_
 refine q4 ?_
 refine ts (.k (.i 5 (vi 0) .n)) ?_
 refine TriE.loopN h (fun (v1 : Nat) => St.mk [(0, eS 1 vt a0), (5, vi v1)] []) rfl ?_
 clear h
 rintro back v1 h
 dsimp only [agraffelaw08_texts_L1] at h
 refine q1 ?_
 refine sj ?_
 refine rk 2 (.k2 (.i 10 (vi v1) (.i 11 (eS 1 vt a0) .n))) ?_
 refine jo 12 (.len 0 11) (ok_len_m rfl) ?_
 refine jo 13 (.bin .lss false 10 12) (n_lss (i := v1) (j := a0.length) rfl rfl) ?_
 refine jf (.d2 (.k2 (.i 13 (vb (decide (v1 < a0.length))) .n))) ?_
 refine tc h (fun c2 h => ?_) (fun c2 h => ?_)
 ·refine q2 ?_
  refine q7 ?_
  refine sj ?_
  refine rk 2 (.k2 (.i 16 (eS 1 vt a0) (.i 17 (vi v1) .n))) ?_
  refine jo 18 (.iaddr 1 16 17) (ok_iaddr_m (j := v1) rfl rfl rfl c2) ?_
  refine jo 19 (.load false 1 18) (ok_load_fm (v := vt (ix a0 v1)) rfl c2 rfl) ?_
  refine jo 20 (.len 1 19) (ok_len_t rfl) ?_
  refine jo 21 (.bin .gtr false 20 (ki 20)) (n_gtr (i := (ix a0 v1).length) (j := 20) rfl rfl) ?_
  refine jf (.d4 (.k2 (.i 21 (vb (decide (20 < ((ix a0 v1).length)))) .n))) ?_
  refine tc h (fun c3 h => ?_) (fun c3 h => ?_)
  ·refine sk (.i 4 (vb false) .n) ?_
   refine q3 ?_
   have h := si h
   subst h
   exact DoneS.ret Sees.refl rfl rfl
  refine q2 ?_
  refine q6 ?_
  refine rk 1 (.k (.i 14 (vi v1) .n)) ?_
  refine cK h fun c4 h => ?_
  refine jo 15 (.bin .add false 14 (ki 1)) (r_addn (i := v1) (j := 1) rfl rfl c4) ?_
  refine jk 1 (.d (.k (.i 5 (vi ((v1 + 1 : Nat) : Int)) .n))) ?_
  exact Vs.intro sy ⟨(v1 + 1), rfl, h⟩
 refine q5 ?_
 exact Vs.intro sy ⟨(), rfl, h⟩
set_option maxHeartbeats 1000000 in
theorem agraffelaw08_Few_ok (n : Nat) (a0 : List Task) (r : Bool) (h : agraffelaw08_Few n a0 = some r) : FnL Tryz.prog 21 [eS 6 eTask a0] [] (vb r) [] := by
 dsimp only [agraffelaw08_Few] at h
 refine fo [2] Tryz.call21 Tryz.func21 rfl ?_
 refine sk .a ?_
 refine q1 ?_
 refine sj ?_
 refine rk 1 (.k (.i 7 (eS 6 eTask a0) .n)) ?_
 refine jo 8 (.len 0 7) (ok_len_m rfl) ?_
 refine jo 9 (.bin .gtr false 8 (ki 9)) (n_gtr (i := a0.length) (j := 9) rfl rfl) ?_
 refine rk 1 (.d2 (.k (.i 10 (vb (decide (9 < a0.length))) .n))) ?_
 refine gj (eS 6 eTask a0) 11 (.mov 0) 10 true rfl ?_
 refine gv 12 (.len 0 11) 10 true rfl (fun hg => (ok_len_m rfl)) (fun hg => (.cons hg .nil)) ?_
 refine gv 13 (.bin .leq false 12 (ki 60)) 10 true rfl (fun hg => (n_leq (i := a0.length) (j := 60) rfl rfl)) (fun hg => (.cons hg (.cons rfl .nil))) ?_
 refine pa 14 10 13 rfl rfl ?_
 refine rk 1 (.d4 (.k (.i 15 (vb ((decide (9 < a0.length)) && (decide (a0.length ≤ 60)))) .n))) ?_
 refine gj (eS 6 eTask a0) 16 (.mov 0) 15 false rfl ?_
 refine gv 17 (.len 0 16) 15 false rfl (fun hg => (ok_len_m rfl)) (fun hg => (.cons hg .nil)) ?_
 refine gv 18 (.bin .gtr false 17 (ki 63)) 15 false rfl (fun hg => (n_gtr (i := a0.length) (j := 63) rfl rfl)) (fun hg => (.cons hg (.cons rfl .nil))) ?_
 refine po 19 15 18 rfl rfl ?_
 refine jf (.d4 (.k (.i 19 (vb (((decide (9 < a0.length)) && (decide (a0.length ≤ 60))) || (decide (63 < a0.length)))) .n))) ?_
 refine tc h (fun c1 h => ?_) (fun c1 h => ?_)
 ·refine sk (.i 2 (vb false) .n) ?_
  refine q3 ?_
  have h := si h
  subst h
  exact DoneS.ret Sees.refl rfl rfl
 refine q2 ?_
 refine TriE.seqK h (fun (_ : Unit) => St.mk [] []) ?_ ?_
 ·rintro ⟨⟩ h
  refine sk (.i 2 (vb true) .n) ?_
  refine q3 ?_
  have h := si h
  subst h
  exact DoneS.ret Sees.refl rfl rfl
 intro k3 h
 refine sk (.k (.i 3 (vi 0) .n)) ?_
 refine q4 ?_
 refine ts (.k (.i 3 (vi 0) .n)) ?_
 refine TriE.loopN h (fun (v6 : Nat) => St.mk [(0, eS 6 eTask a0), (3, vi v6)] []) rfl ?_
 clear h
 rintro back v6 h
 dsimp only [agraffelaw08_Few_L3] at h
 refine q1 ?_
 refine sj ?_
 refine rk 2 (.k2 (.i 20 (vi v6) (.i 21 (eS 6 eTask a0) .n))) ?_
 refine jo 22 (.len 0 21) (ok_len_m rfl) ?_
 refine jo 23 (.bin .lss false 20 22) (n_lss (i := v6) (j := a0.length) rfl rfl) ?_
 refine jf (.d2 (.k2 (.i 23 (vb (decide (v6 < a0.length))) .n))) ?_
 refine tc h (fun c2 h => ?_) (fun c2 h => ?_)
 ·refine q2 ?_
  refine TriE.seqK h (fun (_ : Unit) => St.mk [(0, eS 6 eTask a0), (3, vi v6)] []) ?_ ?_
  ·rintro ⟨⟩ h
   refine q6 ?_
   refine rk 1 (.k (.i 24 (vi v6) .n)) ?_
   refine cK h fun c12 h => ?_
   refine jo 25 (.bin .add false 24 (ki 1)) (r_addn (i := v6) (j := 1) rfl rfl c12) ?_
   refine jk 1 (.d (.k (.i 3 (vi ((v6 + 1 : Nat) : Int)) .n))) ?_
   exact Vs.intro sy ⟨(v6 + 1), rfl, h⟩
  intro k2 h
  refine q4 ?_
  refine sj ?_
  refine rk 2 (.k2 (.i 26 (eS 6 eTask a0) (.i 27 (vi v6) .n))) ?_
  refine jo 28 (.iaddr 6 26 27) (ok_iaddr_m (j := v6) rfl rfl rfl c2) ?_
  refine jo 29 (.load true 6 28) (ok_load_fm (v := .agg [vt ((ix a0 v6).Name), vi ((ix a0 v6).Cents), vi ((ix a0 v6).Hours), eS 1 vt ((ix a0 v6).Needs), eS 1 (eS 1 vt) ((ix a0 v6).OneOf), eS 2 ePartCount ((ix a0 v6).Parts)]) rfl c2 rfl) ?_
  refine jko 2 (.d2 (.k2 (.i 4 (.ptr 0 0 0) .n))) [some (.row 6 [.agg [vt ((ix a0 v6).Name), vi ((ix a0 v6).Cents), vi ((ix a0 v6).Hours), eS 1 vt ((ix a0 v6).Needs), eS 1 (eS 1 vt) ((ix a0 v6).OneOf), eS 2 ePartCount ((ix a0 v6).Parts)]])] ?_
  refine q1 ?_
  refine sj ?_
  refine rk 2 (.k3 (.i 31 (vt ((ix a0 v6).Name)) .n)) ?_
  refine jo 32 (.len 1 31) (ok_len_t rfl) ?_
  refine jo 33 (.bin .gtr false 32 (ki 20)) (n_gtr (i := ((ix a0 v6).Name).length) (j := 20) rfl rfl) ?_
  refine rk 1 (.d2 (.k3 (.i 34 (vb (decide (20 < (((ix a0 v6).Name).length)))) .n))) ?_
  refine gj (.ptr 0 0 3) 35 (.faddr 3 4) 34 false rfl ?_
  refine gk (eS 1 vt ((ix a0 v6).Needs)) 36 (.load false 1 35) 34 false rfl (fun hg => (.cons hg .nil)) ?_
  refine bK h fun y7 hy7 h => ?_
  refine gc 37 [36, (ki 13)] 34 false rfl (fun hg => agraffelaw08_texts_ok n ((ix a0 v6).Needs) 13 y7 (gcall_some hy7 hg)) (fun hg => (.cons rfl (.cons hg (.cons rfl .nil)))) (fun hg => by kernel_rfl) ?_
  refine gk (vb (!y7)) 38 (.un .not 37) 34 false rfl (fun hg => (.cons hg .nil)) ?_
  refine po 39 34 38 rfl rfl ?_
  refine rk 1 (.d4 (.d (.k3 (.i 35 (.cond (!(decide (20 < (((ix a0 v6).Name).length)))) (.ptr 0 0 3)) (.i 36 (.cond (!(decide (20 < (((ix a0 v6).Name).length)))) (eS 1 vt ((ix a0 v6).Needs))) (.i 37 (.cond (!(decide (20 < (((ix a0 v6).Name).length)))) (vb y7)) (.i 38 (.cond (!(decide (20 < (((ix a0 v6).Name).length)))) (vb (!y7))) (.i 40 (vb ((decide (20 < (((ix a0 v6).Name).length))) || (!y7))) .n)))))))) ?_
  refine gj (.ptr 0 0 4) 41 (.faddr 4 4) 40 false rfl ?_
  refine gk (eS 1 (eS 1 vt) ((ix a0 v6).OneOf)) 42 (.load false 1 41) 40 false rfl (fun hg => (.cons hg .nil)) ?_
  refine gv 43 (.len 0 42) 40 false rfl (fun hg => (ok_len_m rfl)) (fun hg => (.cons hg .nil)) ?_
  refine gv 44 (.bin .gtr false 43 (ki 9)) 40 false rfl (fun hg => (n_gtr (i := ((ix a0 v6).OneOf).length) (j := 9) rfl rfl)) (fun hg => (.cons hg (.cons rfl .nil))) ?_
  refine po 45 40 44 rfl rfl ?_
  refine rk 1 (.d4 (.d (.k4 (.k3 (.i 41 (.cond (!((decide (20 < (((ix a0 v6).Name).length))) || (!y7))) (.ptr 0 0 4)) (.i 42 (.cond (!((decide (20 < (((ix a0 v6).Name).length))) || (!y7))) (eS 1 (eS 1 vt) ((ix a0 v6).OneOf))) (.i 43 (.cond (!((decide (20 < (((ix a0 v6).Name).length))) || (!y7))) (vi ((((ix a0 v6).OneOf).length : Nat) : Int))) (.i 44 (.cond (!((decide (20 < (((ix a0 v6).Name).length))) || (!y7))) (vb (decide (9 < (((ix a0 v6).OneOf).length))))) (.i 46 (vb (((decide (20 < (((ix a0 v6).Name).length))) || (!y7)) || (decide (9 < (((ix a0 v6).OneOf).length))))) .n))))))))) ?_
  refine gj (.ptr 0 0 5) 47 (.faddr 5 4) 46 false rfl ?_
  refine gk (eS 2 ePartCount ((ix a0 v6).Parts)) 48 (.load false 1 47) 46 false rfl (fun hg => (.cons hg .nil)) ?_
  refine gv 49 (.len 0 48) 46 false rfl (fun hg => (ok_len_m rfl)) (fun hg => (.cons hg .nil)) ?_
  refine gv 50 (.bin .gtr false 49 (ki 13)) 46 false rfl (fun hg => (n_gtr (i := ((ix a0 v6).Parts).length) (j := 13) rfl rfl)) (fun hg => (.cons hg (.cons rfl .nil))) ?_
  refine po 51 46 50 rfl rfl ?_
  refine jf (.d4 (.d (.k3 (.i 51 (vb ((((decide (20 < (((ix a0 v6).Name).length))) || (!y7)) || (decide (9 < (((ix a0 v6).OneOf).length)))) || (decide (13 < (((ix a0 v6).Parts).length))))) .n)))) ?_
  refine tc h (fun c3 h => ?_) (fun c3 h => ?_)
  ·refine sk (.i 2 (vb false) .n) ?_
   refine q3 ?_
   have h := si h
   subst h
   exact DoneS.ret (S' := ⟨[(2, vb false)], []⟩) (sc [] (by decide) (by kernel_rfl) ObRen.nil rfl rfl) rfl rfl
  refine q2 ?_
  refine TriE.seqK h (fun (_ : Unit) => St.mk [(0, eS 6 eTask a0), (3, vi v6), (4, .ptr 0 0 0)] [some (.row 6 [.agg [vt ((ix a0 v6).Name), vi ((ix a0 v6).Cents), vi ((ix a0 v6).Hours), eS 1 vt ((ix a0 v6).Needs), eS 1 (eS 1 vt) ((ix a0 v6).OneOf), eS 2 ePartCount ((ix a0 v6).Parts)]])]) ?_ ?_
  ·rintro ⟨⟩ h
   refine sk (.k3 (.i 6 (vi 0) .n)) ?_
   refine q4 ?_
   refine ts (.k3 (.i 6 (vi 0) .n)) ?_
   refine TriE.loopN h (fun (v11 : Nat) => St.mk [(0, eS 6 eTask a0), (3, vi v6), (4, .ptr 0 0 0), (6, vi v11)] [some (.row 6 [.agg [vt ((ix a0 v6).Name), vi ((ix a0 v6).Cents), vi ((ix a0 v6).Hours), eS 1 vt ((ix a0 v6).Needs), eS 1 (eS 1 vt) ((ix a0 v6).OneOf), eS 2 ePartCount ((ix a0 v6).Parts)]])]) rfl ?_
   clear h
   rintro back v11 h
   dsimp only [agraffelaw08_Few_L2] at h
   refine q1 ?_
   refine sj ?_
   refine rk 3 (.k4 (.i 66 (vi v11) (.i 68 (eS 2 ePartCount ((ix a0 v6).Parts)) .n))) ?_
   refine jo 69 (.len 0 68) (ok_len_m rfl) ?_
   refine jo 70 (.bin .lss false 66 69) (n_lss (i := v11) (j := ((ix a0 v6).Parts).length) rfl rfl) ?_
   refine jf (.d2 (.k4 (.i 70 (vb (decide (v11 < (((ix a0 v6).Parts).length)))) .n))) ?_
   refine tc h (fun c8 h => ?_) (fun c8 h => ?_)
   ·refine q2 ?_
    refine q7 ?_
    refine sj ?_
    refine rk 3 (.k4 (.i 74 (eS 2 ePartCount ((ix a0 v6).Parts)) (.i 75 (vi v11) .n))) ?_
    refine cK h fun c9 h => ?_
    refine jo 76 (.iaddr 2 74 75) (ok_iaddr_m (j := v11) rfl rfl rfl c9) ?_
    refine rk 1 (.d (.k4 (.i 77 (.fptr 2 (List.map ePartCount ((ix a0 v6).Parts)) v11 0) .n))) ?_
    refine jo 78 (.load false 1 77) (ok_load_fm (v := vt ((ix ((ix a0 v6).Parts) v11).Part)) rfl c9 rfl) ?_
    refine jo 79 (.len 1 78) (ok_len_t rfl) ?_
    refine jo 80 (.bin .gtr false 79 (ki 20)) (n_gtr (i := ((ix ((ix a0 v6).Parts) v11).Part).length) (j := 20) rfl rfl) ?_
    refine jf (.d3 (.k4 (.i 80 (vb (decide (20 < (((ix ((ix a0 v6).Parts) v11).Part).length)))) .n))) ?_
    refine tc h (fun c10 h => ?_) (fun c10 h => ?_)
    ·refine sk (.i 2 (vb false) .n) ?_
     refine q3 ?_
     have h := si h
     subst h
     exact DoneS.ret (S' := ⟨[(2, vb false)], []⟩) (sc [] (by decide) (by kernel_rfl) ObRen.nil rfl rfl) rfl rfl
    refine q2 ?_
    refine q6 ?_
    refine rk 1 (.k3 (.i 71 (vi v11) .n)) ?_
    refine cK h fun c11 h => ?_
    refine jo 72 (.bin .add false 71 (ki 1)) (r_addn (i := v11) (j := 1) rfl rfl c11) ?_
    refine jk 1 (.d (.k3 (.i 6 (vi ((v11 + 1 : Nat) : Int)) .n))) ?_
    exact Vs.intro sy ⟨(v11 + 1), rfl, h⟩
   refine q5 ?_
   exact Vs.intro (sc [] (by decide) (by kernel_rfl) ObRen.nil rfl rfl) ⟨(), rfl, h⟩
  intro k1 h
  refine sk (.k3 (.i 5 (vi 0) .n)) ?_
  refine q4 ?_
  refine ts (.k3 (.i 5 (vi 0) .n)) ?_
  refine TriE.loopN h (fun (v9 : Nat) => St.mk [(0, eS 6 eTask a0), (3, vi v6), (4, .ptr 0 0 0), (5, vi v9)] [some (.row 6 [.agg [vt ((ix a0 v6).Name), vi ((ix a0 v6).Cents), vi ((ix a0 v6).Hours), eS 1 vt ((ix a0 v6).Needs), eS 1 (eS 1 vt) ((ix a0 v6).OneOf), eS 2 ePartCount ((ix a0 v6).Parts)]])]) rfl ?_
  clear h
  rintro back v9 h
  dsimp only [agraffelaw08_Few_L1] at h
  refine q1 ?_
  refine sj ?_
  refine rk 3 (.k4 (.i 52 (vi v9) (.i 54 (eS 1 (eS 1 vt) ((ix a0 v6).OneOf)) .n))) ?_
  refine jo 55 (.len 0 54) (ok_len_m rfl) ?_
  refine jo 56 (.bin .lss false 52 55) (n_lss (i := v9) (j := ((ix a0 v6).OneOf).length) rfl rfl) ?_
  refine jf (.d2 (.k4 (.i 56 (vb (decide (v9 < (((ix a0 v6).OneOf).length)))) .n))) ?_
  refine tc h (fun c4 h => ?_) (fun c4 h => ?_)
  ·refine q2 ?_
   refine q7 ?_
   refine sj ?_
   refine rk 3 (.k4 (.i 60 (eS 1 (eS 1 vt) ((ix a0 v6).OneOf)) (.i 61 (vi v9) .n))) ?_
   refine cK h fun c5 h => ?_
   refine jo 62 (.iaddr 1 60 61) (ok_iaddr_m (j := v9) rfl rfl rfl c5) ?_
   refine jo 63 (.load false 1 62) (ok_load_fm (v := eS 1 vt (ix ((ix a0 v6).OneOf) v9)) rfl c5 rfl) ?_
   refine bK h fun y10 hy10 h => ?_
   refine jc 64 [63, (ki 9)] (agraffelaw08_texts_ok n (ix ((ix a0 v6).OneOf) v9) 9 y10 hy10) ?_
   refine jk 1 (.d3 (.k4 (.i 65 (vb (!y10)) .n))) ?_
   refine tc h (fun c6 h => ?_) (fun c6 h => ?_)
   ·refine sk (.i 2 (vb false) .n) ?_
    refine q3 ?_
    have h := si h
    subst h
    exact DoneS.ret (S' := ⟨[(2, vb false)], []⟩) (sc [] (by decide) (by kernel_rfl) ObRen.nil rfl rfl) rfl rfl
   refine q2 ?_
   refine q6 ?_
   refine rk 1 (.k3 (.i 57 (vi v9) .n)) ?_
   refine cK h fun c7 h => ?_
   refine jo 58 (.bin .add false 57 (ki 1)) (r_addn (i := v9) (j := 1) rfl rfl c7) ?_
   refine jk 1 (.d (.k3 (.i 5 (vi ((v9 + 1 : Nat) : Int)) .n))) ?_
   exact Vs.intro sy ⟨(v9 + 1), rfl, h⟩
  refine q5 ?_
  exact Vs.intro sy ⟨(), rfl, h⟩
 refine q5 ?_
 exact Vs.intro sy ⟨(), rfl, h⟩
theorem agraffebase_CopyTexts_ok (n : Nat) (a0 : List Str) (r : Unit) (h : agraffebase_CopyTexts n a0 = some r) : FnL Tryz.prog 61 [eS 1 vt a0] [] (.own 0 0 a0.length) [some (.row 1 (List.map vt a0))] := by
 dsimp only [agraffebase_CopyTexts] at h
 refine fo [2] Tryz.call61 Tryz.func61 rfl ?_
 refine sk .a ?_
 refine sj ?_
 refine rk 2 (.i 3 .emp (.i 4 (eS 1 vt a0) .n)) ?_
 refine cK h fun c1 h => ?_
 refine jx 5 (.app 1 16 3 4) _ (ok_app_emp (e := vt) (l := a0) (u := eS 1 vt a0) rfl rfl els_sl c1) rfl rfl ?_
 refine jk 1 (.i 2 (.own 0 0 a0.length) .n) ?_
 refine q3 ?_
 have h := si h
 subst h
 exact DoneS.ret Sees.refl rfl rfl
theorem agraffebase_CopyTexts_2_ok (n : Nat) (a0 : List Str) (r : Unit) (h : agraffebase_CopyTexts_2 n a0 = some r) : FnL Tryz.prog 61 [eS 1 vt a0] [] (eS 1 vt a0) [] := by
 dsimp only [agraffebase_CopyTexts_2] at h
 refine fo [2] Tryz.call61 Tryz.func61 rfl ?_
 refine sk .a ?_
 refine sj ?_
 refine rk 2 (.i 3 .emp (.i 4 (eS 1 vt a0) .n)) ?_
 refine cK h fun c1 h => ?_
 refine jx 5 (.app 1 16 3 4) _ (ok_app_emp (e := vt) (l := a0) (u := eS 1 vt a0) rfl rfl els_sl c1) rfl rfl ?_
 refine jk 1 (.i 2 (.own 0 0 a0.length) .n) ?_
 refine q3 ?_
 have h := si h
 subst h
 exact DoneS.ret (S' := ⟨[(2, eS 1 vt a0)], []⟩) (Sees.trans (Sees.freeze 0 (fr' := [(2, eS 1 vt a0)]) (ob' := [none]) rfl (frz_row vt_frzE _) (.cons (frz_full rfl) .nil) rfl) (sc [] (by decide) (by kernel_rfl) ObRen.nil rfl rfl)) rfl rfl
set_option maxHeartbeats 1000000 in
theorem agraffelaw08_Copied_ok (n : Nat) (a0 : List Task) (r : (List Task)) (h : agraffelaw08_Copied n a0 = some r) : FnL Tryz.prog 23 [eS 6 eTask a0] [] (eS 6 eTask r) [] := by
 dsimp only [agraffelaw08_Copied] at h
 refine fo [2] Tryz.call23 Tryz.func23 rfl ?_
 refine sk .a ?_
 refine sj ?_
 refine rk 2 (.i 7 .emp (.i 8 (eS 6 eTask a0) .n)) ?_
 refine cK h fun c1 h => ?_
 refine jx 9 (.app 6 104 7 8) _ (ok_app_emp (e := eTask) (l := a0) (u := eS 6 eTask a0) rfl rfl els_sl c1) rfl rfl ?_
 refine jk 1 (.i 3 (.own 0 0 a0.length) .n) ?_
 refine TriE.seqK h (fun (v15 : (List Task)) => St.mk [(3, .own 0 0 v15.length)] [some (.row 6 (List.map eTask v15))]) ?_ ?_
 ·rintro v15 h
  refine sk (.i 2 (.own 0 0 v15.length) .n) ?_
  refine q3 ?_
  have h := si h
  subst h
  exact DoneS.ret (S' := ⟨[(2, eS 6 eTask v15)], []⟩) (Sees.trans (Sees.freeze 0 (fr' := [(2, eS 6 eTask v15)]) (ob' := [none]) rfl (frz_row eTask_frzE _) (.cons (frz_full rfl) .nil) rfl) (sc [] (by decide) (by kernel_rfl) ObRen.nil rfl rfl)) rfl rfl
 intro k2 h
 refine sk (.k (.i 4 (vi 0) .n)) ?_
 refine q4 ?_
 refine ts (.k (.i 4 (vi 0) .n)) ?_
 refine TriE.loopN h (fun (t : Nat × (List Task)) => match t with | (v7, v8) => St.mk [(3, .own 0 0 v8.length), (4, vi v7)] [some (.row 6 (List.map eTask v8))]) rfl ?_
 clear h
 rintro back ⟨v7, v8⟩ h
 dsimp only [agraffelaw08_Copied_L2] at h
 refine q1 ?_
 refine sj ?_
 refine rk 3 (.k2 (.i 10 (vi v7) (.i 12 (vi (v8.length : Int)) .n))) ?_
 refine jo 13 (.bin .lss false 10 12) (n_lss (i := v7) (j := v8.length) rfl rfl) ?_
 refine jf (.d (.k2 (.i 13 (vb (decide (v7 < v8.length))) .n))) ?_
 refine tc h (fun c2 h => ?_) (fun c2 h => ?_)
 ·refine q2 ?_
  refine TriE.seqK h (fun (v14 : (List (List Str))) => St.mk [(3, .own 0 0 v8.length), (4, vi v7)] [some (.row 6 (List.set (List.map eTask (List.set (List.set v8 v7 (ix v8 v7)) v7 (ix (List.set v8 v7 (ix v8 v7)) v7))) v7 (.agg [vt ((ix (List.set (List.set v8 v7 (ix v8 v7)) v7 (ix (List.set v8 v7 (ix v8 v7)) v7)) v7).Name), vi ((ix (List.set (List.set v8 v7 (ix v8 v7)) v7 (ix (List.set v8 v7 (ix v8 v7)) v7)) v7).Cents), vi ((ix (List.set (List.set v8 v7 (ix v8 v7)) v7 (ix (List.set v8 v7 (ix v8 v7)) v7)) v7).Hours), eS 1 vt ((ix (List.set (List.set v8 v7 (ix v8 v7)) v7 (ix (List.set v8 v7 (ix v8 v7)) v7)) v7).Needs), .own 1 0 v14.length, eS 2 ePartCount ((ix (List.set (List.set v8 v7 (ix v8 v7)) v7 (ix (List.set v8 v7 (ix v8 v7)) v7)) v7).Parts)]))), some (.row 1 (List.map (eS 1 vt) v14))]) ?_ ?_
  ·rintro v14 h
   refine q6 ?_
   refine rk 1 (.k (.i 14 (vi v7) .n)) ?_
   refine cK h fun c10 h => ?_
   refine jo 15 (.bin .add false 14 (ki 1)) (r_addn (i := v7) (j := 1) rfl rfl c10) ?_
   refine jk 1 (.d (.k (.i 4 (vi ((v7 + 1 : Nat) : Int)) .n))) ?_
   exact Vs.intro (Sees.trans (Sees.freezeO 1 (fr' := [(3, .own 0 0 v8.length), (4, vi ((v7 + 1 : Nat) : Int))]) (ob' := [some (.row 6 (List.set (List.map eTask (List.set (List.set v8 v7 (ix v8 v7)) v7 (ix (List.set v8 v7 (ix v8 v7)) v7))) v7 (.agg [vt ((ix (List.set (List.set v8 v7 (ix v8 v7)) v7 (ix (List.set v8 v7 (ix v8 v7)) v7)) v7).Name), vi ((ix (List.set (List.set v8 v7 (ix v8 v7)) v7 (ix (List.set v8 v7 (ix v8 v7)) v7)) v7).Cents), vi ((ix (List.set (List.set v8 v7 (ix v8 v7)) v7 (ix (List.set v8 v7 (ix v8 v7)) v7)) v7).Hours), eS 1 vt ((ix (List.set (List.set v8 v7 (ix v8 v7)) v7 (ix (List.set v8 v7 (ix v8 v7)) v7)) v7).Needs), eS 1 (eS 1 vt) v14, eS 2 ePartCount ((ix (List.set (List.set v8 v7 (ix v8 v7)) v7 (ix (List.set v8 v7 (ix v8 v7)) v7)) v7).Parts)]))), none]) rfl (frz_row (eS_frzE 1 vt) _) (.cons (.refl _) (.cons (.refl _) .nil)) (.cons (objFrz_set (fun _ => rfl) (.cons (.refl _) (.cons (.refl _) (.cons (.refl _) (.cons (.refl _) (.cons (frz_full rfl) (.cons (.refl _) .nil)))))) rfl) (.cons .same .nil))) (Sees.trans (Sees.obco (ob' := [some (.row 6 (List.map eTask (List.set (List.set (List.set v8 v7 (ix v8 v7)) v7 (ix (List.set v8 v7 (ix v8 v7)) v7)) v7 (Task.mk ((ix (List.set (List.set v8 v7 (ix v8 v7)) v7 (ix (List.set v8 v7 (ix v8 v7)) v7)) v7).Name) ((ix (List.set (List.set v8 v7 (ix v8 v7)) v7 (ix (List.set v8 v7 (ix v8 v7)) v7)) v7).Cents) ((ix (List.set (List.set v8 v7 (ix v8 v7)) v7 (ix (List.set v8 v7 (ix v8 v7)) v7)) v7).Hours) ((ix (List.set (List.set v8 v7 (ix v8 v7)) v7 (ix (List.set v8 v7 (ix v8 v7)) v7)) v7).Needs) v14 ((ix (List.set (List.set v8 v7 (ix v8 v7)) v7 (ix (List.set v8 v7 (ix v8 v7)) v7)) v7).Parts))))), none]) (.cons (objCo_set (fun _ => rfl) (.cons .same (.cons .same (.cons .same (.cons .same (.cons .same (.cons .same .nil))))))) (.cons .same .nil))) (Sees.cov (Cov.mk2 (rs := [0]) (by decide) rfl rfl (.cons (.inl (by simp only [List.length_set]; rfl)) (.cons (.inl rfl) .nil)) (obRen_row eTask_frz rfl .nil))))) ⟨(v7 + 1, (List.set (List.set (List.set v8 v7 (ix v8 v7)) v7 (ix (List.set v8 v7 (ix v8 v7)) v7)) v7 (Task.mk ((ix (List.set (List.set v8 v7 (ix v8 v7)) v7 (ix (List.set v8 v7 (ix v8 v7)) v7)) v7).Name) ((ix (List.set (List.set v8 v7 (ix v8 v7)) v7 (ix (List.set v8 v7 (ix v8 v7)) v7)) v7).Cents) ((ix (List.set (List.set v8 v7 (ix v8 v7)) v7 (ix (List.set v8 v7 (ix v8 v7)) v7)) v7).Hours) ((ix (List.set (List.set v8 v7 (ix v8 v7)) v7 (ix (List.set v8 v7 (ix v8 v7)) v7)) v7).Needs) v14 ((ix (List.set (List.set v8 v7 (ix v8 v7)) v7 (ix (List.set v8 v7 (ix v8 v7)) v7)) v7).Parts)))), rfl, h⟩
  intro k1 h
  refine q4 ?_
  refine sj ?_
  refine rk 4 (.k2 (.i 16 (.own 0 0 v8.length) (.i 17 (vi v7) (.i 18 (.own 0 0 v8.length) (.i 19 (vi v7) .n))))) ?_
  refine jo 20 (.iaddr 6 18 19) (ok_iaddr_o0 (j := v7) rfl rfl rfl rfl c2) ?_
  refine rk 1 (.d (.k4 (.i 21 (.ptr 0 v7 3) .n))) ?_
  refine jo 22 (.load false 1 21) (ok_load_pm (l := v8) (e := eTask) (v := eS 1 vt ((ix v8 v7).Needs)) rfl rfl c2 rfl) ?_
  refine bK h fun y9 hy9 h => ?_
  refine jco (.own 1 0 (((ix v8 v7).Needs).length)) 23 [22] (agraffebase_CopyTexts_ok n ((ix v8 v7).Needs) y9 hy9) [] rfl ObsRen.nil (.same (row_ren vt_frz _ _ _) .nil) rfl ?_
  refine jo 24 (.iaddr 6 16 17) (ok_iaddr_o0 (j := v7) rfl rfl rfl rfl c2) ?_
  refine rk 1 (.d3 (.k2 (.i 23 (.own 1 0 (((ix v8 v7).Needs).length)) (.i 25 (.ptr 0 v7 3) .n)))) ?_
  refine RegJ.sees (Sees.freeze 1 (fr' := [(3, .own 0 0 v8.length), (4, vi v7), (23, eS 1 vt ((ix v8 v7).Needs)), (25, .ptr 0 v7 3)]) (ob' := [some (.row 6 (List.map eTask v8)), none]) rfl (frz_row vt_frzE _) (.cons (.refl _) (.cons (.refl _) (.cons (frz_full rfl) (.cons (.refl _) .nil)))) rfl) ?_
  refine jn (.store 1 25 23) _ (ok_store_m (l := v8) (e := eTask) (x' := (ix v8 v7)) (u := eS 1 vt ((ix v8 v7).Needs)) rfl rfl rfl c2 rfl rfl) rfl rfl ?_
  refine jf (.k2 .n) ?_
  refine sj ?_
  refine rk 5 (.k2 (.i 26 (.own 0 0 v8.length) (.i 27 (vi v7) (.i 28 .emp (.i 29 (.own 0 0 v8.length) (.i 30 (vi v7) .n)))))) ?_
  refine jo 31 (.iaddr 6 29 30) (ok_iaddr_o0 (j := v7) rfl rfl rfl rfl c2) ?_
  refine rk 1 (.d (.k4 (.k (.i 32 (.ptr 0 v7 5) .n)))) ?_
  refine cK h fun c3 h => ?_
  refine jo 33 (.load false 1 32) (ok_load_pm (l := (List.set v8 v7 (ix v8 v7))) (e := eTask) (v := eS 2 ePartCount ((ix (List.set v8 v7 (ix v8 v7)) v7).Parts)) rfl rfl c3 rfl) ?_
  refine cK h fun c4 h => ?_
  refine jx 34 (.app 2 24 28 33) _ (ok_app_emp (e := ePartCount) (l := (ix (List.set v8 v7 (ix v8 v7)) v7).Parts) (u := eS 2 ePartCount ((ix (List.set v8 v7 (ix v8 v7)) v7).Parts)) rfl rfl els_sl c4) rfl rfl ?_
  refine jo 35 (.iaddr 6 26 27) (ok_iaddr_o0 (j := v7) rfl rfl rfl rfl c2) ?_
  refine rk 1 (.d3 (.k2 (.i 34 (.own 2 0 (((ix (List.set v8 v7 (ix v8 v7)) v7).Parts).length)) (.i 36 (.ptr 0 v7 5) .n)))) ?_
  refine RegJ.sees (Sees.freeze 2 (fr' := [(3, .own 0 0 v8.length), (4, vi v7), (34, eS 2 ePartCount ((ix (List.set v8 v7 (ix v8 v7)) v7).Parts)), (36, .ptr 0 v7 5)]) (ob' := [some (.row 6 (List.map eTask (List.set v8 v7 (ix v8 v7)))), none, none]) rfl (frz_row ePartCount_frzE _) (.cons (.refl _) (.cons (.refl _) (.cons (frz_full (by simp)) (.cons (.refl _) .nil)))) rfl) ?_
  refine jn (.store 1 36 34) _ (ok_store_m (l := (List.set v8 v7 (ix v8 v7))) (e := eTask) (x' := (ix (List.set v8 v7 (ix v8 v7)) v7)) (u := eS 2 ePartCount ((ix (List.set v8 v7 (ix v8 v7)) v7).Parts)) rfl rfl rfl c3 rfl rfl) rfl rfl ?_
  refine jf (.k2 .n) ?_
  refine sj ?_
  refine rk 2 (.k2 (.i 37 (.own 0 0 v8.length) (.i 38 (vi v7) .n))) ?_
  refine jo 39 (.iaddr 6 37 38) (ok_iaddr_o0 (j := v7) rfl rfl rfl rfl c2) ?_
  refine rk 1 (.d (.k2 (.i 40 (.ptr 0 v7 4) .n))) ?_
  refine cK h fun c5 h => ?_
  refine jo 41 (.load false 1 40) (ok_load_pm (l := (List.set (List.set v8 v7 (ix v8 v7)) v7 (ix (List.set v8 v7 (ix v8 v7)) v7))) (e := eTask) (v := eS 1 (eS 1 vt) ((ix (List.set (List.set v8 v7 (ix v8 v7)) v7 (ix (List.set v8 v7 (ix v8 v7)) v7)) v7).OneOf)) rfl rfl c5 rfl) ?_
  refine jk 1 (.d (.k2 (.i 5 (eS 1 (eS 1 vt) ((ix (List.set (List.set v8 v7 (ix v8 v7)) v7 (ix (List.set v8 v7 (ix v8 v7)) v7)) v7).OneOf)) .n))) ?_
  refine sj ?_
  refine rk 2 (.k3 (.i 42 (.own 0 0 v8.length) (.i 43 (vi v7) .n))) ?_
  refine jo 44 (.iaddr 6 42 43) (ok_iaddr_o0 (j := v7) rfl rfl rfl rfl c2) ?_
  refine rk 1 (.d (.k3 (.i 45 (.ptr 0 v7 4) .n))) ?_
  refine jn (.store 1 45 (.c .emp)) [some (.row 6 (List.set (List.map eTask (List.set (List.set v8 v7 (ix v8 v7)) v7 (ix (List.set v8 v7 (ix v8 v7)) v7))) v7 (.agg [vt ((ix (List.set (List.set v8 v7 (ix v8 v7)) v7 (ix (List.set v8 v7 (ix v8 v7)) v7)) v7).Name), vi ((ix (List.set (List.set v8 v7 (ix v8 v7)) v7 (ix (List.set v8 v7 (ix v8 v7)) v7)) v7).Cents), vi ((ix (List.set (List.set v8 v7 (ix v8 v7)) v7 (ix (List.set v8 v7 (ix v8 v7)) v7)) v7).Hours), eS 1 vt ((ix (List.set (List.set v8 v7 (ix v8 v7)) v7 (ix (List.set v8 v7 (ix v8 v7)) v7)) v7).Needs), .emp, eS 2 ePartCount ((ix (List.set (List.set v8 v7 (ix v8 v7)) v7 (ix (List.set v8 v7 (ix v8 v7)) v7)) v7).Parts)]))), none, none] (ok_store_r (l := (List.set (List.set v8 v7 (ix v8 v7)) v7 (ix (List.set v8 v7 (ix v8 v7)) v7))) (e := eTask) (X' := .agg [vt ((ix (List.set (List.set v8 v7 (ix v8 v7)) v7 (ix (List.set v8 v7 (ix v8 v7)) v7)) v7).Name), vi ((ix (List.set (List.set v8 v7 (ix v8 v7)) v7 (ix (List.set v8 v7 (ix v8 v7)) v7)) v7).Cents), vi ((ix (List.set (List.set v8 v7 (ix v8 v7)) v7 (ix (List.set v8 v7 (ix v8 v7)) v7)) v7).Hours), eS 1 vt ((ix (List.set (List.set v8 v7 (ix v8 v7)) v7 (ix (List.set v8 v7 (ix v8 v7)) v7)) v7).Needs), .emp, eS 2 ePartCount ((ix (List.set (List.set v8 v7 (ix v8 v7)) v7 (ix (List.set v8 v7 (ix v8 v7)) v7)) v7).Parts)]) (u := .emp) rfl rfl rfl c5 rfl rfl) rfl rfl ?_
  refine jf (.k3 .n) ?_
  refine sk (.k3 (.i 6 (vi 0) .n)) ?_
  refine q4 ?_
  refine TriE.sees (S' := ⟨[(3, .own 0 0 v8.length), (4, vi v7), (5, eS 1 (eS 1 vt) ((ix (List.set (List.set v8 v7 (ix v8 v7)) v7 (ix (List.set v8 v7 (ix v8 v7)) v7)) v7).OneOf)), (6, vi 0)], [some (.row 6 (List.set (List.map eTask (List.set (List.set v8 v7 (ix v8 v7)) v7 (ix (List.set v8 v7 (ix v8 v7)) v7))) v7 (.agg [vt ((ix (List.set (List.set v8 v7 (ix v8 v7)) v7 (ix (List.set v8 v7 (ix v8 v7)) v7)) v7).Name), vi ((ix (List.set (List.set v8 v7 (ix v8 v7)) v7 (ix (List.set v8 v7 (ix v8 v7)) v7)) v7).Cents), vi ((ix (List.set (List.set v8 v7 (ix v8 v7)) v7 (ix (List.set v8 v7 (ix v8 v7)) v7)) v7).Hours), eS 1 vt ((ix (List.set (List.set v8 v7 (ix v8 v7)) v7 (ix (List.set v8 v7 (ix v8 v7)) v7)) v7).Needs), .own 1 0 ([] : List (List Str)).length, eS 2 ePartCount ((ix (List.set (List.set v8 v7 (ix v8 v7)) v7 (ix (List.set v8 v7 (ix v8 v7)) v7)) v7).Parts)]))), some (.row 1 (List.map (eS 1 vt) ([] : List (List Str))))]⟩) (Sees.trans (Sees.co2 (fr' := [(3, .own 0 0 v8.length), (4, vi v7), (5, eS 1 (eS 1 vt) ((ix (List.set (List.set v8 v7 (ix v8 v7)) v7 (ix (List.set v8 v7 (ix v8 v7)) v7)) v7).OneOf)), (6, vi 0)]) (ob' := [some (.row 6 (List.set (List.map eTask (List.set (List.set v8 v7 (ix v8 v7)) v7 (ix (List.set v8 v7 (ix v8 v7)) v7))) v7 (.agg [vt ((ix (List.set (List.set v8 v7 (ix v8 v7)) v7 (ix (List.set v8 v7 (ix v8 v7)) v7)) v7).Name), vi ((ix (List.set (List.set v8 v7 (ix v8 v7)) v7 (ix (List.set v8 v7 (ix v8 v7)) v7)) v7).Cents), vi ((ix (List.set (List.set v8 v7 (ix v8 v7)) v7 (ix (List.set v8 v7 (ix v8 v7)) v7)) v7).Hours), eS 1 vt ((ix (List.set (List.set v8 v7 (ix v8 v7)) v7 (ix (List.set v8 v7 (ix v8 v7)) v7)) v7).Needs), .own 3 0 0, eS 2 ePartCount ((ix (List.set (List.set v8 v7 (ix v8 v7)) v7 (ix (List.set v8 v7 (ix v8 v7)) v7)) v7).Parts)]))), none, none]) (.cons .same (.cons .same (.cons .same (.cons .same .nil)))) (.cons (objLe_set (fun _ => rfl) (.cons .same (.cons .same (.cons .same (.cons .same (.cons .own (.cons .same .nil)))))) rfl) (.cons .same (.cons .same .nil))) 1) (sc [0, 3] (by decide) (by kernel_rfl) (obRen_set eTask_frz rfl rfl (obRen_row (eS_frz 1 vt) rfl .nil)) rfl rfl)) ?_
  refine TriE.loopN h (fun (t : Nat × (List (List Str))) => match t with | (v11, v12) => St.mk [(3, .own 0 0 v8.length), (4, vi v7), (5, eS 1 (eS 1 vt) ((ix (List.set (List.set v8 v7 (ix v8 v7)) v7 (ix (List.set v8 v7 (ix v8 v7)) v7)) v7).OneOf)), (6, vi v11)] [some (.row 6 (List.set (List.map eTask (List.set (List.set v8 v7 (ix v8 v7)) v7 (ix (List.set v8 v7 (ix v8 v7)) v7))) v7 (.agg [vt ((ix (List.set (List.set v8 v7 (ix v8 v7)) v7 (ix (List.set v8 v7 (ix v8 v7)) v7)) v7).Name), vi ((ix (List.set (List.set v8 v7 (ix v8 v7)) v7 (ix (List.set v8 v7 (ix v8 v7)) v7)) v7).Cents), vi ((ix (List.set (List.set v8 v7 (ix v8 v7)) v7 (ix (List.set v8 v7 (ix v8 v7)) v7)) v7).Hours), eS 1 vt ((ix (List.set (List.set v8 v7 (ix v8 v7)) v7 (ix (List.set v8 v7 (ix v8 v7)) v7)) v7).Needs), .own 1 0 v12.length, eS 2 ePartCount ((ix (List.set (List.set v8 v7 (ix v8 v7)) v7 (ix (List.set v8 v7 (ix v8 v7)) v7)) v7).Parts)]))), some (.row 1 (List.map (eS 1 vt) v12))]) rfl ?_
  clear h
  rintro back ⟨v11, v12⟩ h
  dsimp only [agraffelaw08_Copied_L1] at h
  refine q1 ?_
  refine sj ?_
  refine rk 2 (.k4 (.i 46 (vi v11) (.i 47 (eS 1 (eS 1 vt) ((ix (List.set (List.set v8 v7 (ix v8 v7)) v7 (ix (List.set v8 v7 (ix v8 v7)) v7)) v7).OneOf)) .n))) ?_
  refine jo 48 (.len 0 47) (ok_len_m rfl) ?_
  refine jo 49 (.bin .lss false 46 48) (n_lss (i := v11) (j := ((ix (List.set (List.set v8 v7 (ix v8 v7)) v7 (ix (List.set v8 v7 (ix v8 v7)) v7)) v7).OneOf).length) rfl rfl) ?_
  refine jf (.d2 (.k4 (.i 49 (vb (decide (v11 < (((ix (List.set (List.set v8 v7 (ix v8 v7)) v7 (ix (List.set v8 v7 (ix v8 v7)) v7)) v7).OneOf).length)))) .n))) ?_
  refine tc h (fun c6 h => ?_) (fun c6 h => ?_)
  ·refine q2 ?_
   refine q7 ?_
   refine ts (.k4 .n) ?_
   refine TriE.draw (by kernel_rfl) ?_
   refine dk 4 (.i 55 (vi v7) (.i 54 (.own 0 0 v8.length) (.i 53 (vi v7) (.i 52 (.own 0 0 v8.length) .a)))) ?_
   refine dp 56 (.iaddr 6 54 55) (ok_iaddr_o0 (j := v7) rfl rfl rfl rfl c2) ?_
   refine dk 1 (.i 57 (.ptr 0 v7 4) .a) ?_
   refine dp 58 (.load false 1 57) (ok_load_set (l := (List.set (List.set v8 v7 (ix v8 v7)) v7 (ix (List.set v8 v7 (ix v8 v7)) v7))) (e := eTask) (v := .own 1 0 v12.length) rfl rfl c5 rfl) ?_
   refine dk 2 (.i 60 (vi v11) (.i 59 (eS 1 (eS 1 vt) ((ix (List.set (List.set v8 v7 (ix v8 v7)) v7 (ix (List.set v8 v7 (ix v8 v7)) v7)) v7).OneOf)) .a)) ?_
   refine cK h fun c7 h => ?_
   refine dp 61 (.iaddr 1 59 60) (ok_iaddr_m (j := v11) rfl rfl rfl c7) ?_
   refine dp 62 (.load false 1 61) (ok_load_fm (v := eS 1 vt (ix ((ix (List.set (List.set v8 v7 (ix v8 v7)) v7 (ix (List.set v8 v7 (ix v8 v7)) v7)) v7).OneOf) v11)) rfl c7 rfl) ?_
   refine bK h fun y13 hy13 h => ?_
   refine dc (eS 1 vt (ix ((ix (List.set (List.set v8 v7 (ix v8 v7)) v7 (ix (List.set v8 v7 (ix v8 v7)) v7)) v7).OneOf) v11)) 0 63 [62] (agraffebase_CopyTexts_2_ok n (ix ((ix (List.set (List.set v8 v7 (ix v8 v7)) v7 (ix (List.set v8 v7 (ix v8 v7)) v7)) v7).OneOf) v11) y13 hy13) [] rfl ObsRen.nil ObsRen.nil rfl (.inr ⟨rfl, rfl⟩) ?_
   refine dko 1 (.i 64 (.own 14 0 1) .a) [some (.row 6 (List.set (List.map eTask (List.set (List.set v8 v7 (ix v8 v7)) v7 (ix (List.set v8 v7 (ix v8 v7)) v7))) v7 (.agg [vt ((ix (List.set (List.set v8 v7 (ix v8 v7)) v7 (ix (List.set v8 v7 (ix v8 v7)) v7)) v7).Name), vi ((ix (List.set (List.set v8 v7 (ix v8 v7)) v7 (ix (List.set v8 v7 (ix v8 v7)) v7)) v7).Cents), vi ((ix (List.set (List.set v8 v7 (ix v8 v7)) v7 (ix (List.set v8 v7 (ix v8 v7)) v7)) v7).Hours), eS 1 vt ((ix (List.set (List.set v8 v7 (ix v8 v7)) v7 (ix (List.set v8 v7 (ix v8 v7)) v7)) v7).Needs), .own 1 0 v12.length, eS 2 ePartCount ((ix (List.set (List.set v8 v7 (ix v8 v7)) v7 (ix (List.set v8 v7 (ix v8 v7)) v7)) v7).Parts)]))), some (.row 1 (List.map (eS 1 vt) v12)), none, none, none, none, none, none, none, none, none, none, none, none, some (.row 1 [eS 1 vt (ix ((ix (List.set (List.set v8 v7 (ix v8 v7)) v7 (ix (List.set v8 v7 (ix v8 v7)) v7)) v7).OneOf) v11)])] ?_
   refine cK h fun c8 h => ?_
   refine dx 65 (.app 1 24 58 64) [some (.row 6 (List.set (List.map eTask (List.set (List.set v8 v7 (ix v8 v7)) v7 (ix (List.set v8 v7 (ix v8 v7)) v7))) v7 (.agg [vt ((ix (List.set (List.set v8 v7 (ix v8 v7)) v7 (ix (List.set v8 v7 (ix v8 v7)) v7)) v7).Name), vi ((ix (List.set (List.set v8 v7 (ix v8 v7)) v7 (ix (List.set v8 v7 (ix v8 v7)) v7)) v7).Cents), vi ((ix (List.set (List.set v8 v7 (ix v8 v7)) v7 (ix (List.set v8 v7 (ix v8 v7)) v7)) v7).Hours), eS 1 vt ((ix (List.set (List.set v8 v7 (ix v8 v7)) v7 (ix (List.set v8 v7 (ix v8 v7)) v7)) v7).Needs), .own 1 0 v12.length, eS 2 ePartCount ((ix (List.set (List.set v8 v7 (ix v8 v7)) v7 (ix (List.set v8 v7 (ix v8 v7)) v7)) v7).Parts)]))), none, none, none, none, none, none, none, none, none, none, none, none, none, some (.row 1 [eS 1 vt (ix ((ix (List.set (List.set v8 v7 (ix v8 v7)) v7 (ix (List.set v8 v7 (ix v8 v7)) v7)) v7).OneOf) v11)]), some (.row 1 (List.map (eS 1 vt) (v12 ++ ([(ix ((ix (List.set (List.set v8 v7 (ix v8 v7)) v7 (ix (List.set v8 v7 (ix v8 v7)) v7)) v7).OneOf) v11)] : List (List Str)))))] (ok_app_own (l := v12) (l2 := ([(ix ((ix (List.set (List.set v8 v7 (ix v8 v7)) v7 (ix (List.set v8 v7 (ix v8 v7)) v7)) v7).OneOf) v11)] : List (List Str))) (e := (eS 1 vt)) (u := .own 14 0 1) rfl rfl rfl rfl rfl c8) rfl rfl ?_
   refine dp 66 (.iaddr 6 52 53) (ok_iaddr_o0 (j := v7) rfl rfl rfl rfl c2) ?_
   refine dk 1 (.i 67 (.ptr 0 v7 4) .a) ?_
   refine dm (.store 1 67 65) [some (.row 6 (List.set (List.map eTask (List.set (List.set v8 v7 (ix v8 v7)) v7 (ix (List.set v8 v7 (ix v8 v7)) v7))) v7 (.agg [vt ((ix (List.set (List.set v8 v7 (ix v8 v7)) v7 (ix (List.set v8 v7 (ix v8 v7)) v7)) v7).Name), vi ((ix (List.set (List.set v8 v7 (ix v8 v7)) v7 (ix (List.set v8 v7 (ix v8 v7)) v7)) v7).Cents), vi ((ix (List.set (List.set v8 v7 (ix v8 v7)) v7 (ix (List.set v8 v7 (ix v8 v7)) v7)) v7).Hours), eS 1 vt ((ix (List.set (List.set v8 v7 (ix v8 v7)) v7 (ix (List.set v8 v7 (ix v8 v7)) v7)) v7).Needs), .own 15 0 ((v12 ++ ([(ix ((ix (List.set (List.set v8 v7 (ix v8 v7)) v7 (ix (List.set v8 v7 (ix v8 v7)) v7)) v7).OneOf) v11)] : List (List Str))).length), eS 2 ePartCount ((ix (List.set (List.set v8 v7 (ix v8 v7)) v7 (ix (List.set v8 v7 (ix v8 v7)) v7)) v7).Parts)]))), none, none, none, none, none, none, none, none, none, none, none, none, none, some (.row 1 [eS 1 vt (ix ((ix (List.set (List.set v8 v7 (ix v8 v7)) v7 (ix (List.set v8 v7 (ix v8 v7)) v7)) v7).OneOf) v11)]), some (.row 1 (List.map (eS 1 vt) (v12 ++ ([(ix ((ix (List.set (List.set v8 v7 (ix v8 v7)) v7 (ix (List.set v8 v7 (ix v8 v7)) v7)) v7).OneOf) v11)] : List (List Str))))), none, none, none] (ok_store_s (l := (List.set (List.set v8 v7 (ix v8 v7)) v7 (ix (List.set v8 v7 (ix v8 v7)) v7))) (e := eTask) (X' := .agg [vt ((ix (List.set (List.set v8 v7 (ix v8 v7)) v7 (ix (List.set v8 v7 (ix v8 v7)) v7)) v7).Name), vi ((ix (List.set (List.set v8 v7 (ix v8 v7)) v7 (ix (List.set v8 v7 (ix v8 v7)) v7)) v7).Cents), vi ((ix (List.set (List.set v8 v7 (ix v8 v7)) v7 (ix (List.set v8 v7 (ix v8 v7)) v7)) v7).Hours), eS 1 vt ((ix (List.set (List.set v8 v7 (ix v8 v7)) v7 (ix (List.set v8 v7 (ix v8 v7)) v7)) v7).Needs), .own 15 0 ((v12 ++ ([(ix ((ix (List.set (List.set v8 v7 (ix v8 v7)) v7 (ix (List.set v8 v7 (ix v8 v7)) v7)) v7).OneOf) v11)] : List (List Str))).length), eS 2 ePartCount ((ix (List.set (List.set v8 v7 (ix v8 v7)) v7 (ix (List.set v8 v7 (ix v8 v7)) v7)) v7).Parts)]) (u := .own 15 0 ((v12 ++ ([(ix ((ix (List.set (List.set v8 v7 (ix v8 v7)) v7 (ix (List.set v8 v7 (ix v8 v7)) v7)) v7).OneOf) v11)] : List (List Str))).length)) rfl rfl rfl c5 rfl rfl) rfl rfl ?_
   refine dfi (ob' := [some (.row 6 (List.set (List.map eTask (List.set (List.set v8 v7 (ix v8 v7)) v7 (ix (List.set v8 v7 (ix v8 v7)) v7))) v7 (.agg [vt ((ix (List.set (List.set v8 v7 (ix v8 v7)) v7 (ix (List.set v8 v7 (ix v8 v7)) v7)) v7).Name), vi ((ix (List.set (List.set v8 v7 (ix v8 v7)) v7 (ix (List.set v8 v7 (ix v8 v7)) v7)) v7).Cents), vi ((ix (List.set (List.set v8 v7 (ix v8 v7)) v7 (ix (List.set v8 v7 (ix v8 v7)) v7)) v7).Hours), eS 1 vt ((ix (List.set (List.set v8 v7 (ix v8 v7)) v7 (ix (List.set v8 v7 (ix v8 v7)) v7)) v7).Needs), .own 1 0 ((v12 ++ ([(ix ((ix (List.set (List.set v8 v7 (ix v8 v7)) v7 (ix (List.set v8 v7 (ix v8 v7)) v7)) v7).OneOf) v11)] : List (List Str))).length), eS 2 ePartCount ((ix (List.set (List.set v8 v7 (ix v8 v7)) v7 (ix (List.set v8 v7 (ix v8 v7)) v7)) v7).Parts)]))), some (.row 1 (List.map (eS 1 vt) (v12 ++ ([(ix ((ix (List.set (List.set v8 v7 (ix v8 v7)) v7 (ix (List.set v8 v7 (ix v8 v7)) v7)) v7).OneOf) v11)] : List (List Str)))))]) (.d4 (.d4 (.d4 (.d4 .a)))) [0, 15] (obRen_set eTask_frz rfl rfl (obRen_row (eS_frz 1 vt) rfl .nil)) ?_
   refine q6 ?_
   refine rk 1 (.k3 (.i 50 (vi v11) .n)) ?_
   refine cK h fun c9 h => ?_
   refine jo 51 (.bin .add false 50 (ki 1)) (r_addn (i := v11) (j := 1) rfl rfl c9) ?_
   refine jk 1 (.d (.k3 (.i 6 (vi ((v11 + 1 : Nat) : Int)) .n))) ?_
   exact Vs.intro sy ⟨(v11 + 1, (v12 ++ ([(ix ((ix (List.set (List.set v8 v7 (ix v8 v7)) v7 (ix (List.set v8 v7 (ix v8 v7)) v7)) v7).OneOf) v11)] : List (List Str)))), rfl, h⟩
  refine q5 ?_
  exact Vs.intro sy ⟨v12, rfl, h⟩
 refine q5 ?_
 exact Vs.intro sy ⟨v8, rfl, h⟩
set_option maxHeartbeats 1000000 in
theorem restore_isName_ok (n : Nat) (a0 : Str) (r : Bool) (h : restore_isName n a0 = some r) : FnL Tryz.prog 120 [vt a0] [] (vb r) [] := by
 dsimp only [restore_isName] at h
 refine fo [2] Tryz.call120 Tryz.func120 rfl ?_
 refine sk .a ?_
 refine TriE.seqK h (fun (_ : Unit) => St.mk [(0, vt a0)] []) ?_ ?_
 ·rintro ⟨⟩ h
  refine sj ?_
  refine rk 3 (.k (.i 49 (vb (!(a0 == ([] : Str)))) .n)) ?_
  refine gj (vt a0) 50 (.mov 0) 49 true rfl ?_
  refine gv 51 (.len 1 50) 49 true rfl (fun hg => (ok_len_t rfl)) (fun hg => (.cons hg .nil)) ?_
  refine gv 52 (.bin .leq false 51 (ki 12)) 49 true rfl (fun hg => (n_leq (i := a0.length) (j := 12) rfl rfl)) (fun hg => (.cons hg (.cons rfl .nil))) ?_
  refine pa 53 49 52 rfl rfl ?_
  refine jk 1 (.i 2 (vb ((!(a0 == ([] : Str))) && (decide (a0.length ≤ 12)))) .n) ?_
  refine q3 ?_
  have h := si h
  subst h
  exact DoneS.ret Sees.refl rfl rfl
 intro k1 h
 refine sj ?_
 refine rk 1 (.k (.i 6 (vt a0) .n)) ?_
 refine RegJ.op (Op1.bytes (s := ⟨⟨a0⟩⟩) _ (cy (I0 7 (.bytes 6))) rfl (.cons rfl .nil)) ?_
 refine jo 8 (.len 0 7) (ok_len_m rfl) ?_
 refine jq 1 [(0, vt a0), (7, eS 1 vbyte a0), (8, vi (a0.length : Int)), (9, vi 0)] [] ?_
 refine q4 ?_
 refine ts (.k3 (.i 9 (vi 0) .n)) ?_
 refine TriE.loopN h (fun (v1 : Nat) => St.mk [(0, vt a0), (7, eS 1 vbyte a0), (8, vi (a0.length : Int)), (9, vi v1)] []) rfl ?_
 clear h
 rintro back v1 h
 dsimp only [restore_isName_L1] at h
 refine sj ?_
 refine jo 10 (.bin .lss false 9 8) (n_lss (i := v1) (j := a0.length) rfl rfl) ?_
 refine jf (.d (.k4 (.i 10 (vb (decide (v1 < a0.length))) .n))) ?_
 refine q1 ?_
 refine tc h (fun c1 h => ?_) (fun c1 h => ?_)
 ·refine q2 ?_
  refine q7 ?_
  refine sj ?_
  refine rk 1 (.k4 (.i 11 (vi v1) .n)) ?_
  refine jo 12 (.iaddr 1 7 9) (ok_iaddr_m (j := v1) rfl rfl rfl c1) ?_
  refine jo 13 (.load false 1 12) (ok_load_fm (v := vk .u8 (((ix a0 v1).toNat : Nat) : Int)) rfl c1 rfl) ?_
  refine jk 2 (.d2 (.k4 (.i 3 (vi v1) (.i 4 (vk .u8 (((ix a0 v1).toNat : Nat) : Int)) .n)))) ?_
  refine sj ?_
  refine rk 3 (.k4 (.k2 (.i 16 (vb (decide ((97 : Int) ≤ (((ix a0 v1).toNat : Nat) : Int)))) .n))) ?_
  refine gj (vk .u8 (((ix a0 v1).toNat : Nat) : Int)) 17 (.mov 4) 16 true rfl ?_
  refine gk (vb (decide ((((ix a0 v1).toNat : Nat) : Int) ≤ (122 : Int)))) 18 (.bin .leq false 17 (.c (.p (.int .u8 122)))) 16 true rfl (fun hg => (.cons hg (.cons rfl .nil))) ?_
  refine pa 19 16 18 rfl rfl ?_
  refine rk 1 (.d3 (.k4 (.k2 (.i 17 (.cond (decide ((97 : Int) ≤ (((ix a0 v1).toNat : Nat) : Int))) (vk .u8 (((ix a0 v1).toNat : Nat) : Int))) (.i 18 (.cond (decide ((97 : Int) ≤ (((ix a0 v1).toNat : Nat) : Int))) (vb (decide ((((ix a0 v1).toNat : Nat) : Int) ≤ (122 : Int))))) (.i 20 (vb ((decide ((97 : Int) ≤ (((ix a0 v1).toNat : Nat) : Int))) && (decide ((((ix a0 v1).toNat : Nat) : Int) ≤ (122 : Int))))) .n)))))) ?_
  refine gj (vk .u8 (((ix a0 v1).toNat : Nat) : Int)) 21 (.mov 4) 20 false rfl ?_
  refine gk (vb (decide ((65 : Int) ≤ (((ix a0 v1).toNat : Nat) : Int)))) 22 (.bin .geq false 21 (.c (.p (.int .u8 65)))) 20 false rfl (fun hg => (.cons hg (.cons rfl .nil))) ?_
  refine gk (vb (decide ((65 : Int) ≤ (((ix a0 v1).toNat : Nat) : Int)))) 23 (.mov 22) 20 false rfl (fun hg => (.cons hg .nil)) ?_
  refine gj (vk .u8 (((ix a0 v1).toNat : Nat) : Int)) 24 (.mov 4) 23 true rfl ?_
  refine gk (vb (decide ((((ix a0 v1).toNat : Nat) : Int) ≤ (90 : Int)))) 25 (.bin .leq false 24 (.c (.p (.int .u8 90)))) 23 true rfl (fun hg => (.cons hg (.cons rfl .nil))) ?_
  refine RegJ.op (Op1.andg (g := !((decide ((97 : Int) ≤ (((ix a0 v1).toNat : Nat) : Int))) && (decide ((((ix a0 v1).toNat : Nat) : Int) ≤ (122 : Int))))) (cy (IG 26 (.pick 23 25 (.c (.p (.bool false)))) 20 false)) rfl rfl rfl (fun hg => by first | exact hokA2 hg | exact hokA3 hg | exact hokA1 | exact hokA0 | (rw [hg]; simp) | simp_all)) ?_
  refine po 27 20 26 rfl rfl ?_
  refine jk 1 (.d4 (.d3 (.k4 (.k2 (.i 5 (vb (((decide ((97 : Int) ≤ (((ix a0 v1).toNat : Nat) : Int))) && (decide ((((ix a0 v1).toNat : Nat) : Int) ≤ (122 : Int)))) || ((decide ((65 : Int) ≤ (((ix a0 v1).toNat : Nat) : Int))) && (decide ((((ix a0 v1).toNat : Nat) : Int) ≤ (90 : Int)))))) .n))))) ?_
  refine sj ?_
  refine rk 3 (.k4 (.k2 (.i 30 (vb (!(((decide ((97 : Int) ≤ (((ix a0 v1).toNat : Nat) : Int))) && (decide ((((ix a0 v1).toNat : Nat) : Int) ≤ (122 : Int)))) || ((decide ((65 : Int) ≤ (((ix a0 v1).toNat : Nat) : Int))) && (decide ((((ix a0 v1).toNat : Nat) : Int) ≤ (90 : Int))))))) .n))) ?_
  refine gj (vi v1) 31 (.mov 3) 30 true rfl ?_
  refine gv 32 (.bin .eql false 31 (ki 0)) 30 true rfl (fun hg => (n_eql (i := v1) (j := 0) rfl rfl)) (fun hg => (.cons hg (.cons rfl .nil))) ?_
  refine gk (vb (decide (v1 = 0))) 33 (.mov 32) 30 true rfl (fun hg => (.cons hg .nil)) ?_
  refine gj (vk .u8 (((ix a0 v1).toNat : Nat) : Int)) 34 (.mov 4) 33 false rfl ?_
  refine gk (vb ((((ix a0 v1).toNat : Nat) : Int) != (45 : Int))) 35 (.bin .neq false 34 (.c (.p (.int .u8 45)))) 33 false rfl (fun hg => (.cons hg (.cons rfl .nil))) ?_
  refine gk (vb ((((ix a0 v1).toNat : Nat) : Int) != (45 : Int))) 36 (.mov 35) 33 false rfl (fun hg => (.cons hg .nil)) ?_
  refine gj (vk .u8 (((ix a0 v1).toNat : Nat) : Int)) 37 (.mov 4) 36 true rfl ?_
  refine gk (vb (decide ((((ix a0 v1).toNat : Nat) : Int) < (48 : Int)))) 38 (.bin .lss false 37 (.c (.p (.int .u8 48)))) 36 true rfl (fun hg => (.cons hg (.cons rfl .nil))) ?_
  refine gk (vb (decide ((((ix a0 v1).toNat : Nat) : Int) < (48 : Int)))) 39 (.mov 38) 36 true rfl (fun hg => (.cons hg .nil)) ?_
  refine gj (vk .u8 (((ix a0 v1).toNat : Nat) : Int)) 40 (.mov 4) 39 false rfl ?_
  refine gk (vb (decide ((57 : Int) < (((ix a0 v1).toNat : Nat) : Int)))) 41 (.bin .gtr false 40 (.c (.p (.int .u8 57)))) 39 false rfl (fun hg => (.cons hg (.cons rfl .nil))) ?_
  refine RegJ.op (Op1.org (g := ((!(((decide ((97 : Int) ≤ (((ix a0 v1).toNat : Nat) : Int))) && (decide ((((ix a0 v1).toNat : Nat) : Int) ≤ (122 : Int)))) || ((decide ((65 : Int) ≤ (((ix a0 v1).toNat : Nat) : Int))) && (decide ((((ix a0 v1).toNat : Nat) : Int) ≤ (90 : Int)))))) && !(decide (v1 = 0))) && ((((ix a0 v1).toNat : Nat) : Int) != (45 : Int))) (cy (IG 42 (.pick 39 (.c (.p (.bool true))) 41) 36 true)) rfl rfl rfl (fun hg => by first | exact hokO2 hg | exact hokO3 hg | exact hokO1 | exact hokO0 | (rw [hg]; simp) | simp_all)) ?_
  refine RegJ.op (Op1.andg (g := (!(((decide ((97 : Int) ≤ (((ix a0 v1).toNat : Nat) : Int))) && (decide ((((ix a0 v1).toNat : Nat) : Int) ≤ (122 : Int)))) || ((decide ((65 : Int) ≤ (((ix a0 v1).toNat : Nat) : Int))) && (decide ((((ix a0 v1).toNat : Nat) : Int) ≤ (90 : Int)))))) && !(decide (v1 = 0))) (cy (IG 43 (.pick 36 42 (.c (.p (.bool false)))) 33 false)) rfl rfl rfl (fun hg => by first | exact hokA2 hg | exact hokA3 hg | exact hokA1 | exact hokA0 | (rw [hg]; simp) | simp_all)) ?_
  refine RegJ.op (Op1.org (g := !(((decide ((97 : Int) ≤ (((ix a0 v1).toNat : Nat) : Int))) && (decide ((((ix a0 v1).toNat : Nat) : Int) ≤ (122 : Int)))) || ((decide ((65 : Int) ≤ (((ix a0 v1).toNat : Nat) : Int))) && (decide ((((ix a0 v1).toNat : Nat) : Int) ≤ (90 : Int)))))) (cy (IG 44 (.pick 33 (.c (.p (.bool true))) 43) 30 true)) rfl rfl rfl (fun hg => by first | exact hokO2 hg | exact hokO3 hg | exact hokO1 | exact hokO0 | (rw [hg]; simp) | simp_all)) ?_
  refine pa 45 30 44 rfl rfl ?_
  refine jf (.d4 (.d4 (.d4 (.d3 (.k4 (.i 45 (vb ((!(((decide ((97 : Int) ≤ (((ix a0 v1).toNat : Nat) : Int))) && (decide ((((ix a0 v1).toNat : Nat) : Int) ≤ (122 : Int)))) || ((decide ((65 : Int) ≤ (((ix a0 v1).toNat : Nat) : Int))) && (decide ((((ix a0 v1).toNat : Nat) : Int) ≤ (90 : Int)))))) && ((decide (v1 = 0)) || (((((ix a0 v1).toNat : Nat) : Int) != (45 : Int)) && ((decide ((((ix a0 v1).toNat : Nat) : Int) < (48 : Int))) || (decide ((57 : Int) < (((ix a0 v1).toNat : Nat) : Int)))))))) .n)))))) ?_
  refine tc h (fun c2 h => ?_) (fun c2 h => ?_)
  ·refine sk (.i 2 (vb false) .n) ?_
   refine q3 ?_
   have h := si h
   subst h
   exact DoneS.ret Sees.refl rfl rfl
  refine q2 ?_
  refine q6 ?_
  refine cK h fun c3 h => ?_
  refine jo 46 (.bin .add false 9 (ki 1)) (r_addn (i := v1) (j := 1) rfl rfl c3) ?_
  refine jk 1 (.d (.k3 (.i 9 (vi ((v1 + 1 : Nat) : Int)) .n))) ?_
  exact Vs.intro sy ⟨(v1 + 1), rfl, h⟩
 refine q5 ?_
 exact Vs.intro sy ⟨(), rfl, h⟩
theorem restore_list_find_f1_ok (n : Nat) (a0 : Task) (a1 : Str) (r : Unit) (h : restore_list_find_f1 n a0 a1 = some r) : FnL Tryz.prog 171 [.agg [vt a0.Name, vi a0.Cents, vi a0.Hours, eS 1 vt a0.Needs, eS 1 (eS 1 vt) a0.OneOf, eS 2 ePartCount a0.Parts], .ptr 0 0 0] [some (.row 1 [vt a1])] (vb (a0.Name == a1)) [some (.row 1 [vt a1])] := by
 dsimp only [restore_list_find_f1] at h
 refine fob [3] Tryz.call171 Tryz.func171 rfl (.cons rfl .nil) ?_
 refine sko (.d (.k (.i 2 (.ptr 1 0 0) .n))) [some (.row 1 [vt a1]), some (.row 6 [.agg [vt a0.Name, vi a0.Cents, vi a0.Hours, eS 1 vt a0.Needs, eS 1 (eS 1 vt) a0.OneOf, eS 2 ePartCount a0.Parts]])] ?_
 refine sk (.i 3 (vb (a0.Name == a1)) .n) ?_
 refine q3 ?_
 have h := si h
 subst h
 exact DoneS.ret (S' := ⟨[(3, vb (a0.Name == a1))], [some (.row 1 [vt a1])]⟩) (sc [0] (by decide) (by kernel_rfl) (.cons rfl .nil) rfl rfl) rfl rfl
theorem slices_IndexFunc_Task_ok (n : Nat) (a0 : List Task) (a1 : Str) (r : Int) (h : slices_IndexFunc_Task n a0 a1 = some r) : FnL Tryz.prog 161 [eS 6 eTask a0, .fn (.func 171) [] [.ptr 0 0 0]] [some (.row 1 [vt a1])] (vi r) [some (.row 1 [vt a1])] := by
 dsimp only [slices_IndexFunc_Task] at h
 refine fob [4] Tryz.call161 Tryz.func161 rfl (.cons rfl .nil) ?_
 refine sk .a ?_
 refine TriE.seqK h (fun (_ : Unit) => St.mk [] [some (.row 1 [vt a1])]) ?_ ?_
 ·rintro ⟨⟩ h
  refine sk (.i 4 (vi (-1)) .n) ?_
  refine q3 ?_
  have h := si h
  subst h
  exact DoneS.ret Sees.refl rfl rfl
 intro k1 h
 refine sj ?_
 refine rk 1 (.k2 (.i 6 (eS 6 eTask a0) .n)) ?_
 refine jo 7 (.len 0 6) (ok_len_m rfl) ?_
 refine jk 1 (.d (.k2 (.i 7 (vi (a0.length : Int)) (.i 8 (vi 0) .n)))) ?_
 refine q4 ?_
 refine ts (.k3 (.i 8 (vi 0) .n)) ?_
 refine TriE.loopN h (fun (v2 : Nat) => St.mk [(0, eS 6 eTask a0), (1, .fn (.func 171) [] [.ptr 0 0 0]), (7, vi (a0.length : Int)), (8, vi v2)] [some (.row 1 [vt a1])]) rfl ?_
 clear h
 rintro back v2 h
 dsimp only [slices_IndexFunc_Task_L1] at h
 refine sj ?_
 refine jo 9 (.bin .lss false 8 7) (n_lss (i := v2) (j := a0.length) rfl rfl) ?_
 refine jf (.d (.k4 (.i 9 (vb (decide (v2 < a0.length))) .n))) ?_
 refine q1 ?_
 refine tc h (fun c1 h => ?_) (fun c1 h => ?_)
 ·refine q2 ?_
  refine q7 ?_
  refine sk (.k4 (.i 5 (vi v2) .n)) ?_
  refine sj ?_
  refine rk 3 (.k4 (.k (.i 11 (.fn (.func 171) [] [.ptr 0 0 0]) (.i 12 (eS 6 eTask a0) (.i 13 (vi v2) .n))))) ?_
  refine jo 14 (.iaddr 6 12 13) (ok_iaddr_m (j := v2) rfl rfl rfl c1) ?_
  refine jo 15 (.load true 6 14) (ok_load_fm (v := .agg [vt ((ix a0 v2).Name), vi ((ix a0 v2).Cents), vi ((ix a0 v2).Hours), eS 1 vt ((ix a0 v2).Needs), eS 1 (eS 1 vt) ((ix a0 v2).OneOf), eS 2 ePartCount ((ix a0 v2).Parts)]) rfl c1 rfl) ?_
  refine bK h fun y3 hy3 h => ?_
  refine jy (vb ((ix a0 v2).Name == a1)) 16 11 [15] rfl (restore_list_find_f1_ok n (ix a0 v2) a1 y3 hy3) [0] rfl (.cons rfl .nil) (.cons rfl .nil) rfl ?_
  refine jf (.d3 (.k4 (.k (.i 16 (vb ((ix a0 v2).Name == a1)) .n)))) ?_
  refine tc h (fun c2 h => ?_) (fun c2 h => ?_)
  ·refine sk (.i 4 (vi v2) .n) ?_
   refine q3 ?_
   have h := si h
   subst h
   exact DoneS.ret Sees.refl rfl rfl
  refine q2 ?_
  refine q6 ?_
  refine cK h fun c3 h => ?_
  refine jo 18 (.bin .add false 8 (ki 1)) (r_addn (i := v2) (j := 1) rfl rfl c3) ?_
  refine jk 1 (.d (.k3 (.i 8 (vi ((v2 + 1 : Nat) : Int)) .n))) ?_
  exact Vs.intro sy ⟨(v2 + 1), rfl, h⟩
 refine q5 ?_
 exact Vs.intro sy ⟨(), rfl, h⟩
theorem restore_list_find_ok (n : Nat) (a0 : List Task) (a1 : Str) (r : Int) (h : restore_list_find n a0 a1 = some r) : FnL Tryz.prog 122 [eS 6 eTask a0, vt a1] [] (vi r) [] := by
 dsimp only [restore_list_find] at h
 refine fo [4] Tryz.call122 Tryz.func122 rfl ?_
 refine sko (.k (.i 3 (.ptr 0 0 0) .n)) [some (.row 1 [vt a1])] ?_
 refine sj ?_
 refine rk 2 (.i 5 (eS 6 eTask a0) (.i 6 (.fn (.func 171) [] [.ptr 0 0 0]) .n)) ?_
 refine bK h fun y1 hy1 h => ?_
 refine jco (vi y1) 7 [5, 6] (slices_IndexFunc_Task_ok n a0 a1 y1 hy1) [0] rfl (.cons rfl .nil) (.cons rfl .nil) rfl ?_
 refine jk 1 (.i 4 (vi y1) .n) ?_
 refine q3 ?_
 have h := si h
 subst h
 exact DoneS.ret (S' := ⟨[(4, vi y1)], []⟩) (sc [] (by decide) (by kernel_rfl) ObRen.nil rfl rfl) rfl rfl
theorem restore_within_ok (n : Nat) (a0 : Int) (a1 : Int) (a2 : Int) (r : Unit) (h : restore_within n a0 a1 a2 = some r) : FnL Tryz.prog 83 [vi a0, vi a1, vi a2] [] (vb ((decide (a1 ≤ a0)) && (decide (a0 ≤ a2)))) [] := by
 dsimp only [restore_within] at h
 refine fo [6] Tryz.call83 Tryz.func83 rfl ?_
 refine sk .a ?_
 refine sj ?_
 refine rk 4 (.k (.d (.k (.i 10 (vb (decide (a1 ≤ a0))) .n)))) ?_
 refine gj (vi a0) 11 (.mov 0) 10 true rfl ?_
 refine gj (vi a2) 12 (.mov 2) 10 true rfl ?_
 refine gk (vb (decide (a0 ≤ a2))) 13 (.bin .leq false 11 12) 10 true rfl (fun hg => (.cons hg (.cons hg .nil))) ?_
 refine pa 14 10 13 rfl rfl ?_
 refine jk 1 (.i 6 (vb ((decide (a1 ≤ a0)) && (decide (a0 ≤ a2)))) .n) ?_
 refine q3 ?_
 have h := si h
 subst h
 exact DoneS.ret Sees.refl rfl rfl
theorem restore_list_checkTask_f1_ok (n : Nat) (a0 : List Str) (r : Unit) (h : restore_list_checkTask_f1 n a0 = some r) : FnL Tryz.prog 156 [eS 1 vt a0] [] (vb (decide (6 < a0.length))) [] := by
 dsimp only [restore_list_checkTask_f1] at h
 refine fo [2] Tryz.call156 Tryz.func156 rfl ?_
 refine sk .a ?_
 refine sj ?_
 refine rk 1 (.i 3 (eS 1 vt a0) .n) ?_
 refine jo 4 (.len 0 3) (ok_len_m rfl) ?_
 refine jo 5 (.bin .gtr false 4 (ki 6)) (n_gtr (i := a0.length) (j := 6) rfl rfl) ?_
 refine jk 1 (.i 2 (vb (decide (6 < a0.length))) .n) ?_
 refine q3 ?_
 have h := si h
 subst h
 exact DoneS.ret Sees.refl rfl rfl
theorem slices_IndexFunc_string_ok (n : Nat) (a0 : List (List Str)) (r : Int) (h : slices_IndexFunc_string n a0 = some r) : FnL Tryz.prog 216 [eS 1 (eS 1 vt) a0, .fn (.func 156) [] []] [] (vi r) [] := by
 dsimp only [slices_IndexFunc_string] at h
 refine fo [4] Tryz.call216 Tryz.func216 rfl ?_
 refine sk .a ?_
 refine TriE.seqK h (fun (_ : Unit) => St.mk [] []) ?_ ?_
 ·rintro ⟨⟩ h
  refine sk (.i 4 (vi (-1)) .n) ?_
  refine q3 ?_
  have h := si h
  subst h
  exact DoneS.ret Sees.refl rfl rfl
 intro k1 h
 refine sj ?_
 refine rk 1 (.k2 (.i 6 (eS 1 (eS 1 vt) a0) .n)) ?_
 refine jo 7 (.len 0 6) (ok_len_m rfl) ?_
 refine jk 1 (.d (.k2 (.i 7 (vi (a0.length : Int)) (.i 8 (vi 0) .n)))) ?_
 refine q4 ?_
 refine ts (.k3 (.i 8 (vi 0) .n)) ?_
 refine TriE.loopN h (fun (v2 : Nat) => St.mk [(0, eS 1 (eS 1 vt) a0), (1, .fn (.func 156) [] []), (7, vi (a0.length : Int)), (8, vi v2)] []) rfl ?_
 clear h
 rintro back v2 h
 dsimp only [slices_IndexFunc_string_L1] at h
 refine sj ?_
 refine jo 9 (.bin .lss false 8 7) (n_lss (i := v2) (j := a0.length) rfl rfl) ?_
 refine jf (.d (.k4 (.i 9 (vb (decide (v2 < a0.length))) .n))) ?_
 refine q1 ?_
 refine tc h (fun c1 h => ?_) (fun c1 h => ?_)
 ·refine q2 ?_
  refine q7 ?_
  refine sk (.k4 (.i 5 (vi v2) .n)) ?_
  refine sj ?_
  refine rk 3 (.k4 (.k (.i 11 (.fn (.func 156) [] []) (.i 12 (eS 1 (eS 1 vt) a0) (.i 13 (vi v2) .n))))) ?_
  refine jo 14 (.iaddr 1 12 13) (ok_iaddr_m (j := v2) rfl rfl rfl c1) ?_
  refine jo 15 (.load false 1 14) (ok_load_fm (v := eS 1 vt (ix a0 v2)) rfl c1 rfl) ?_
  refine bK h fun y3 hy3 h => ?_
  refine jy (vb (decide (6 < (ix a0 v2).length))) 16 11 [15] rfl (restore_list_checkTask_f1_ok n (ix a0 v2) y3 hy3) [] rfl ObsRen.nil ObsRen.nil rfl ?_
  refine jf (.d3 (.k4 (.k (.i 16 (vb (decide (6 < (ix a0 v2).length))) .n)))) ?_
  refine tc h (fun c2 h => ?_) (fun c2 h => ?_)
  ·refine sk (.i 4 (vi v2) .n) ?_
   refine q3 ?_
   have h := si h
   subst h
   exact DoneS.ret Sees.refl rfl rfl
  refine q2 ?_
  refine q6 ?_
  refine cK h fun c3 h => ?_
  refine jo 18 (.bin .add false 8 (ki 1)) (r_addn (i := v2) (j := 1) rfl rfl c3) ?_
  refine jk 1 (.d (.k3 (.i 8 (vi ((v2 + 1 : Nat) : Int)) .n))) ?_
  exact Vs.intro sy ⟨(v2 + 1), rfl, h⟩
 refine q5 ?_
 exact Vs.intro sy ⟨(), rfl, h⟩
theorem slices_ContainsFunc_string_ok (n : Nat) (a0 : List (List Str)) (r : Bool) (h : slices_ContainsFunc_string n a0 = some r) : FnL Tryz.prog 157 [eS 1 (eS 1 vt) a0, .fn (.func 156) [] []] [] (vb r) [] := by
 dsimp only [slices_ContainsFunc_string] at h
 refine fo [4] Tryz.call157 Tryz.func157 rfl ?_
 refine sk .a ?_
 refine sj ?_
 refine rk 2 (.i 5 (eS 1 (eS 1 vt) a0) (.i 6 (.fn (.func 156) [] []) .n)) ?_
 refine bK h fun y1 hy1 h => ?_
 refine jc 7 [5, 6] (slices_IndexFunc_string_ok n a0 y1 hy1) ?_
 refine jk 2 (.i 4 (vb (decide ((0 : Int) ≤ y1))) .n) ?_
 refine q3 ?_
 have h := si h
 subst h
 exact DoneS.ret Sees.refl rfl rfl
theorem slices_Index_string_ok (n : Nat) (a0 : List Str) (a1 : Str) (r : Int) (h : slices_Index_string n a0 a1 = some r) : FnL Tryz.prog 53 [eS 1 vt a0, vt a1] [] (vi r) [] := by
 dsimp only [slices_Index_string] at h
 refine fo [4] Tryz.call53 Tryz.func53 rfl ?_
 refine sk .a ?_
 refine TriE.seqK h (fun (_ : Unit) => St.mk [] []) ?_ ?_
 ·rintro ⟨⟩ h
  refine sk (.i 4 (vi (-1)) .n) ?_
  refine q3 ?_
  have h := si h
  subst h
  exact DoneS.ret Sees.refl rfl rfl
 intro k1 h
 refine sj ?_
 refine rk 1 (.k2 (.i 6 (eS 1 vt a0) .n)) ?_
 refine jo 7 (.len 0 6) (ok_len_m rfl) ?_
 refine jk 1 (.d (.k2 (.i 7 (vi (a0.length : Int)) (.i 8 (vi 0) .n)))) ?_
 refine q4 ?_
 refine ts (.k3 (.i 8 (vi 0) .n)) ?_
 refine TriE.loopN h (fun (v1 : Nat) => St.mk [(0, eS 1 vt a0), (1, vt a1), (7, vi (a0.length : Int)), (8, vi v1)] []) rfl ?_
 clear h
 rintro back v1 h
 dsimp only [slices_Index_string_L1] at h
 refine sj ?_
 refine jo 9 (.bin .lss false 8 7) (n_lss (i := v1) (j := a0.length) rfl rfl) ?_
 refine jf (.d (.k4 (.i 9 (vb (decide (v1 < a0.length))) .n))) ?_
 refine q1 ?_
 refine tc h (fun c1 h => ?_) (fun c1 h => ?_)
 ·refine q2 ?_
  refine q7 ?_
  refine sk (.k4 (.i 5 (vi v1) .n)) ?_
  refine sj ?_
  refine rk 3 (.k4 (.k (.i 11 (vt a1) (.i 12 (eS 1 vt a0) (.i 13 (vi v1) .n))))) ?_
  refine jo 14 (.iaddr 1 12 13) (ok_iaddr_m (j := v1) rfl rfl rfl c1) ?_
  refine jo 15 (.load false 1 14) (ok_load_fm (v := vt (ix a0 v1)) rfl c1 rfl) ?_
  refine jk 1 (.d2 (.k4 (.k (.i 16 (vb (a1 == (ix a0 v1))) .n)))) ?_
  refine tc h (fun c2 h => ?_) (fun c2 h => ?_)
  ·refine sk (.i 4 (vi v1) .n) ?_
   refine q3 ?_
   have h := si h
   subst h
   exact DoneS.ret Sees.refl rfl rfl
  refine q2 ?_
  refine q6 ?_
  refine cK h fun c3 h => ?_
  refine jo 18 (.bin .add false 8 (ki 1)) (r_addn (i := v1) (j := 1) rfl rfl c3) ?_
  refine jk 1 (.d (.k3 (.i 8 (vi ((v1 + 1 : Nat) : Int)) .n))) ?_
  exact Vs.intro sy ⟨(v1 + 1), rfl, h⟩
 refine q5 ?_
 exact Vs.intro sy ⟨(), rfl, h⟩
theorem slices_Contains_string_ok (n : Nat) (a0 : List Str) (a1 : Str) (r : Bool) (h : slices_Contains_string n a0 a1 = some r) : FnL Tryz.prog 142 [eS 1 vt a0, vt a1] [] (vb r) [] := by
 dsimp only [slices_Contains_string] at h
 refine fo [4] Tryz.call142 Tryz.func142 rfl ?_
 refine sk .a ?_
 refine sj ?_
 refine rk 2 (.i 5 (eS 1 vt a0) (.i 6 (vt a1) .n)) ?_
 refine bK h fun y1 hy1 h => ?_
 refine jc 7 [5, 6] (slices_Index_string_ok n a0 a1 y1 hy1) ?_
 refine jk 2 (.i 4 (vb (decide ((0 : Int) ≤ y1))) .n) ?_
 refine q3 ?_
 have h := si h
 subst h
 exact DoneS.ret Sees.refl rfl rfl
theorem restore_list_known_ok (n : Nat) (a0 : List Task) (a1 : List Str) (r : Int) (h : restore_list_known n a0 a1 = some r) : FnL Tryz.prog 158 [eS 6 eTask a0, eS 1 vt a1] [] (vi r) [] := by
 dsimp only [restore_list_known] at h
 refine fo [4] Tryz.call158 Tryz.func158 rfl ?_
 refine sk .a ?_
 refine TriE.seqK h (fun (_ : Unit) => St.mk [] []) ?_ ?_
 ·rintro ⟨⟩ h
  refine sk (.i 4 (vi 0) .n) ?_
  refine q3 ?_
  have h := si h
  subst h
  exact DoneS.ret Sees.refl rfl rfl
 intro k1 h
 refine sj ?_
 refine rk 1 (.k2 (.i 7 (eS 1 vt a1) .n)) ?_
 refine jo 8 (.len 0 7) (ok_len_m rfl) ?_
 refine jk 1 (.d (.k3 (.i 8 (vi (a1.length : Int)) (.i 9 (vi 0) .n)))) ?_
 refine q4 ?_
 refine ts (.k4 (.i 9 (vi 0) .n)) ?_
 refine TriE.loopN h (fun (v3 : Nat) => St.mk [(0, eS 6 eTask a0), (1, eS 1 vt a1), (7, eS 1 vt a1), (8, vi (a1.length : Int)), (9, vi v3)] []) rfl ?_
 clear h
 rintro back v3 h
 dsimp only [restore_list_known_L1] at h
 refine sj ?_
 refine jo 10 (.bin .lss false 9 8) (n_lss (i := v3) (j := a1.length) rfl rfl) ?_
 refine jf (.d (.k4 (.k (.i 10 (vb (decide (v3 < a1.length))) .n)))) ?_
 refine q1 ?_
 refine tc h (fun c1 h => ?_) (fun c1 h => ?_)
 ·refine q2 ?_
  refine q7 ?_
  refine sj ?_
  refine rk 1 (.k4 (.k (.i 11 (vi v3) .n))) ?_
  refine jo 12 (.iaddr 1 7 9) (ok_iaddr_m (j := v3) rfl rfl rfl c1) ?_
  refine jo 13 (.load false 1 12) (ok_load_fm (v := vt (ix a1 v3)) rfl c1 rfl) ?_
  refine jk 2 (.d2 (.k4 (.k (.i 5 (vi v3) (.i 6 (vt (ix a1 v3)) .n))))) ?_
  refine q4 ?_
  refine sj ?_
  refine rk 2 (.k4 (.k3 (.i 15 (eS 6 eTask a0) (.i 16 (vt (ix a1 v3)) .n)))) ?_
  refine bK h fun y4 hy4 h => ?_
  refine jc 17 [15, 16] (restore_list_find_ok n a0 (ix a1 v3) y4 hy4) ?_
  refine jk 2 (.d (.k4 (.k3 (.i 14 (vb (decide (y4 < (0 : Int)))) .n)))) ?_
  refine tc h (fun c2 h => ?_) (fun c2 h => ?_)
  ·refine sk (.i 4 (vi 6) .n) ?_
   refine q3 ?_
   have h := si h
   subst h
   exact DoneS.ret Sees.refl rfl rfl
  refine sj ?_
  refine rk 2 (.k4 (.k (.d (.k (.i 20 (eS 1 vt a1) (.i 21 (vi v3) .n)))))) ?_
  refine cK h fun c3 h => ?_
  refine jo 22 (.slc 1 20 none (some 21) none) (ok_slc_hi (j := v3) rfl rfl rfl c3) ?_
  refine rk 1 (.d (.k4 (.k (.i 22 (eS 1 vt (List.take v3 a1)) (.i 23 (vt (ix a1 v3)) .n))))) ?_
  refine bK h fun y5 hy5 h => ?_
  refine jc 24 [22, 23] (slices_Contains_string_ok n (List.take v3 a1) (ix a1 v3) y5 hy5) ?_
  refine jk 1 (.d (.k4 (.k (.i 19 (vb y5) .n)))) ?_
  refine tc h (fun c4 h => ?_) (fun c4 h => ?_)
  ·refine sk (.i 4 (vi 5) .n) ?_
   refine q3 ?_
   have h := si h
   subst h
   exact DoneS.ret Sees.refl rfl rfl
  refine q2 ?_
  refine q6 ?_
  refine cK h fun c5 h => ?_
  refine jo 25 (.bin .add false 9 (ki 1)) (r_addn (i := v3) (j := 1) rfl rfl c5) ?_
  refine jk 1 (.d (.k4 (.i 9 (vi ((v3 + 1 : Nat) : Int)) .n))) ?_
  exact Vs.intro sy ⟨(v3 + 1), rfl, h⟩
 refine q5 ?_
 exact Vs.intro sy ⟨(), rfl, h⟩
theorem restore_checkCounts_f1_ok (n : Nat) (a0 : PartCount) (a1 : Str) (a2 : Int) (r : Unit) (h : restore_checkCounts_f1 n a0 a1 a2 = some r) : FnL Tryz.prog 218 [.agg [vt a0.Part, vi a0.Count], .ptr 0 0 0] [some (.row 2 [.agg [vt a1, vi a2]])] (vb (a0.Part == a1)) [some (.row 2 [.agg [vt a1, vi a2]])] := by
 dsimp only [restore_checkCounts_f1] at h
 refine fob [3] Tryz.call218 Tryz.func218 rfl (.cons rfl .nil) ?_
 refine sko (.d (.k (.i 2 (.ptr 1 0 0) .n))) [some (.row 2 [.agg [vt a1, vi a2]]), some (.row 2 [.agg [vt a0.Part, vi a0.Count]])] ?_
 refine sk (.i 3 (vb (a0.Part == a1)) .n) ?_
 refine q3 ?_
 have h := si h
 subst h
 exact DoneS.ret (S' := ⟨[(3, vb (a0.Part == a1))], [some (.row 2 [.agg [vt a1, vi a2]])]⟩) (sc [0] (by decide) (by kernel_rfl) (.cons rfl .nil) rfl rfl) rfl rfl
theorem slices_IndexFunc_PartCount_ok (n : Nat) (a0 : List PartCount) (a1 : Str) (a2 : Int) (r : Int) (h : slices_IndexFunc_PartCount n a0 a1 a2 = some r) : FnL Tryz.prog 253 [eS 2 ePartCount a0, .fn (.func 218) [] [.ptr 0 0 0]] [some (.row 2 [.agg [vt a1, vi a2]])] (vi r) [some (.row 2 [.agg [vt a1, vi a2]])] := by
 dsimp only [slices_IndexFunc_PartCount] at h
 refine fob [4] Tryz.call253 Tryz.func253 rfl (.cons rfl .nil) ?_
 refine sk .a ?_
 refine TriE.seqK h (fun (_ : Unit) => St.mk [] [some (.row 2 [.agg [vt a1, vi a2]])]) ?_ ?_
 ·rintro ⟨⟩ h
  refine sk (.i 4 (vi (-1)) .n) ?_
  refine q3 ?_
  have h := si h
  subst h
  exact DoneS.ret Sees.refl rfl rfl
 intro k1 h
 refine sj ?_
 refine rk 1 (.k2 (.i 6 (eS 2 ePartCount a0) .n)) ?_
 refine jo 7 (.len 0 6) (ok_len_m rfl) ?_
 refine jk 1 (.d (.k2 (.i 7 (vi (a0.length : Int)) (.i 8 (vi 0) .n)))) ?_
 refine q4 ?_
 refine ts (.k3 (.i 8 (vi 0) .n)) ?_
 refine TriE.loopN h (fun (v2 : Nat) => St.mk [(0, eS 2 ePartCount a0), (1, .fn (.func 218) [] [.ptr 0 0 0]), (7, vi (a0.length : Int)), (8, vi v2)] [some (.row 2 [.agg [vt a1, vi a2]])]) rfl ?_
 clear h
 rintro back v2 h
 dsimp only [slices_IndexFunc_PartCount_L1] at h
 refine sj ?_
 refine jo 9 (.bin .lss false 8 7) (n_lss (i := v2) (j := a0.length) rfl rfl) ?_
 refine jf (.d (.k4 (.i 9 (vb (decide (v2 < a0.length))) .n))) ?_
 refine q1 ?_
 refine tc h (fun c1 h => ?_) (fun c1 h => ?_)
 ·refine q2 ?_
  refine q7 ?_
  refine sk (.k4 (.i 5 (vi v2) .n)) ?_
  refine sj ?_
  refine rk 3 (.k4 (.k (.i 11 (.fn (.func 218) [] [.ptr 0 0 0]) (.i 12 (eS 2 ePartCount a0) (.i 13 (vi v2) .n))))) ?_
  refine jo 14 (.iaddr 2 12 13) (ok_iaddr_m (j := v2) rfl rfl rfl c1) ?_
  refine jo 15 (.load true 2 14) (ok_load_fm (v := .agg [vt ((ix a0 v2).Part), vi ((ix a0 v2).Count)]) rfl c1 rfl) ?_
  refine bK h fun y3 hy3 h => ?_
  refine jy (vb ((ix a0 v2).Part == a1)) 16 11 [15] rfl (restore_checkCounts_f1_ok n (ix a0 v2) a1 a2 y3 hy3) [0] rfl (.cons rfl .nil) (.cons rfl .nil) rfl ?_
  refine jf (.d3 (.k4 (.k (.i 16 (vb ((ix a0 v2).Part == a1)) .n)))) ?_
  refine tc h (fun c2 h => ?_) (fun c2 h => ?_)
  ·refine sk (.i 4 (vi v2) .n) ?_
   refine q3 ?_
   have h := si h
   subst h
   exact DoneS.ret Sees.refl rfl rfl
  refine q2 ?_
  refine q6 ?_
  refine cK h fun c3 h => ?_
  refine jo 18 (.bin .add false 8 (ki 1)) (r_addn (i := v2) (j := 1) rfl rfl c3) ?_
  refine jk 1 (.d (.k3 (.i 8 (vi ((v2 + 1 : Nat) : Int)) .n))) ?_
  exact Vs.intro sy ⟨(v2 + 1), rfl, h⟩
 refine q5 ?_
 exact Vs.intro sy ⟨(), rfl, h⟩
theorem slices_ContainsFunc_PartCount_ok (n : Nat) (a0 : List PartCount) (a1 : Str) (a2 : Int) (r : Bool) (h : slices_ContainsFunc_PartCount n a0 a1 a2 = some r) : FnL Tryz.prog 217 [eS 2 ePartCount a0, .fn (.func 218) [] [.ptr 0 0 0]] [some (.row 2 [.agg [vt a1, vi a2]])] (vb r) [some (.row 2 [.agg [vt a1, vi a2]])] := by
 dsimp only [slices_ContainsFunc_PartCount] at h
 refine fob [4] Tryz.call217 Tryz.func217 rfl (.cons rfl .nil) ?_
 refine sk .a ?_
 refine sj ?_
 refine rk 2 (.i 5 (eS 2 ePartCount a0) (.i 6 (.fn (.func 218) [] [.ptr 0 0 0]) .n)) ?_
 refine bK h fun y1 hy1 h => ?_
 refine jco (vi y1) 7 [5, 6] (slices_IndexFunc_PartCount_ok n a0 a1 a2 y1 hy1) [0] rfl (.cons rfl .nil) (.cons rfl .nil) rfl ?_
 refine jk 2 (.i 4 (vb (decide ((0 : Int) ≤ y1))) .n) ?_
 refine q3 ?_
 have h := si h
 subst h
 exact DoneS.ret Sees.refl rfl rfl
theorem restore_checkCounts_ok (n : Nat) (a0 : List PartCount) (a1 : Int) (r : Int) (h : restore_checkCounts n a0 a1 = some r) : FnL Tryz.prog 159 [eS 2 ePartCount a0, vi a1] [] (vi r) [] := by
 dsimp only [restore_checkCounts] at h
 refine fo [4] Tryz.call159 Tryz.func159 rfl ?_
 refine sk .a ?_
 refine TriE.seqK h (fun (_ : Unit) => St.mk [] []) ?_ ?_
 ·rintro ⟨⟩ h
  refine sk (.i 4 (vi 0) .n) ?_
  refine q3 ?_
  have h := si h
  subst h
  exact DoneS.ret Sees.refl rfl rfl
 intro k1 h
 refine sj ?_
 refine rk 1 (.k2 (.i 7 (eS 2 ePartCount a0) .n)) ?_
 refine jo 8 (.len 0 7) (ok_len_m rfl) ?_
 refine jk 1 (.d (.k3 (.i 8 (vi (a0.length : Int)) (.i 9 (vi 0) .n)))) ?_
 refine q4 ?_
 refine ts (.k4 (.i 9 (vi 0) .n)) ?_
 refine TriE.loopN h (fun (v4 : Nat) => St.mk [(0, eS 2 ePartCount a0), (1, vi a1), (7, eS 2 ePartCount a0), (8, vi (a0.length : Int)), (9, vi v4)] []) rfl ?_
 clear h
 rintro back v4 h
 dsimp only [restore_checkCounts_L1] at h
 refine sj ?_
 refine jo 10 (.bin .lss false 9 8) (n_lss (i := v4) (j := a0.length) rfl rfl) ?_
 refine jf (.d (.k4 (.k (.i 10 (vb (decide (v4 < a0.length))) .n)))) ?_
 refine q1 ?_
 refine tc h (fun c1 h => ?_) (fun c1 h => ?_)
 ·refine q2 ?_
  refine q7 ?_
  refine sj ?_
  refine rk 1 (.k4 (.k (.i 11 (vi v4) .n))) ?_
  refine jo 12 (.iaddr 2 7 9) (ok_iaddr_m (j := v4) rfl rfl rfl c1) ?_
  refine jo 13 (.load true 2 12) (ok_load_fm (v := .agg [vt ((ix a0 v4).Part), vi ((ix a0 v4).Count)]) rfl c1 rfl) ?_
  refine jko 3 (.d2 (.k4 (.k (.i 6 (.ptr 0 0 0) (.i 5 (vi v4) .n))))) [some (.row 2 [.agg [vt ((ix a0 v4).Part), vi ((ix a0 v4).Count)]])] ?_
  refine q4 ?_
  refine sj ?_
  refine rk 2 (.k4 (.k3 (.i 16 (vt ((ix a0 v4).Part)) .n))) ?_
  refine bK h fun y5 hy5 h => ?_
  refine jc 17 [16] (restore_isName_ok n ((ix a0 v4).Part) y5 hy5) ?_
  refine jk 2 (.d (.k4 (.k3 (.i 14 (vb (!y5)) .n)))) ?_
  refine tc h (fun c2 h => ?_) (fun c2 h => ?_)
  ·refine sk (.i 4 (vi 4) .n) ?_
   refine q3 ?_
   have h := si h
   subst h
   exact DoneS.ret (S' := ⟨[(4, vi 4)], []⟩) (sc [] (by decide) (by kernel_rfl) ObRen.nil rfl rfl) rfl rfl
  refine sj ?_
  refine rk 2 (.k4 (.k2 (.i 20 (eS 2 ePartCount a0) (.i 21 (vi v4) .n)))) ?_
  refine cK h fun c3 h => ?_
  refine jo 22 (.slc 2 20 none (some 21) none) (ok_slc_hi (j := v4) rfl rfl rfl c3) ?_
  refine rk 1 (.d (.k4 (.k2 (.i 22 (eS 2 ePartCount (List.take v4 a0)) (.i 23 (.fn (.func 218) [] [.ptr 0 0 0]) .n))))) ?_
  refine bK h fun y6 hy6 h => ?_
  refine jco (vb y6) 24 [22, 23] (slices_ContainsFunc_PartCount_ok n (List.take v4 a0) ((ix a0 v4).Part) ((ix a0 v4).Count) y6 hy6) [0] rfl (.cons rfl .nil) (.cons rfl .nil) rfl ?_
  refine jk 1 (.d (.k4 (.k2 (.i 19 (vb y6) .n)))) ?_
  refine tc h (fun c4 h => ?_) (fun c4 h => ?_)
  ·refine sk (.i 4 (vi 5) .n) ?_
   refine q3 ?_
   have h := si h
   subst h
   exact DoneS.ret (S' := ⟨[(4, vi 5)], []⟩) (sc [] (by decide) (by kernel_rfl) ObRen.nil rfl rfl) rfl rfl
  refine sj ?_
  refine rk 3 (.k4 (.k (.i 27 (vi ((ix a0 v4).Count)) (.i 28 (vi a1) .n)))) ?_
  refine bK h fun y7 hy7 h => ?_
  refine jc 29 [27, (ki 1), 28] (restore_within_ok n ((ix a0 v4).Count) 1 a1 y7 hy7) ?_
  refine jk 2 (.d (.k4 (.k (.i 25 (vb (!((decide (1 ≤ ((ix a0 v4).Count))) && (decide (((ix a0 v4).Count) ≤ a1))))) .n)))) ?_
  refine tc h (fun c5 h => ?_) (fun c5 h => ?_)
  ·refine sk (.i 4 (vi 2) .n) ?_
   refine q3 ?_
   have h := si h
   subst h
   exact DoneS.ret (S' := ⟨[(4, vi 2)], []⟩) (sc [] (by decide) (by kernel_rfl) ObRen.nil rfl rfl) rfl rfl
  refine q2 ?_
  refine q6 ?_
  refine cK h fun c6 h => ?_
  refine jo 31 (.bin .add false 9 (ki 1)) (r_addn (i := v4) (j := 1) rfl rfl c6) ?_
  refine jk 1 (.d (.k4 (.i 9 (vi ((v4 + 1 : Nat) : Int)) .n))) ?_
  exact Vs.intro (sc [] (by decide) (by kernel_rfl) ObRen.nil rfl rfl) ⟨(v4 + 1), rfl, h⟩
 refine q5 ?_
 exact Vs.intro sy ⟨(), rfl, h⟩
set_option maxHeartbeats 1000000 in
theorem restore_list_checkTask_ok (n : Nat) (a0 : List Task) (a1 : Int) (r : Int) (h : restore_list_checkTask n a0 a1 = some r) : FnL Tryz.prog 107 [eS 6 eTask a0, vi a1] [] (vi r) [] := by
 dsimp only [restore_list_checkTask] at h
 refine fo [4] Tryz.call107 Tryz.func107 rfl ?_
 refine sk .a ?_
 refine sj ?_
 refine rk 2 (.k2 (.i 11 (eS 6 eTask a0) (.i 12 (vi a1) .n))) ?_
 refine cK h fun c1 h => ?_
 refine jo 13 (.iaddr 6 11 12) (ok_iaddr_m (j := a1.toNat) rfl rfl (inB_to c1) (inB_lt c1)) ?_
 refine cK h fun c2 h => ?_
 refine jo 14 (.load true 6 13) (ok_load_fm (v := .agg [vt ((ix a0 a1.toNat).Name), vi ((ix a0 a1.toNat).Cents), vi ((ix a0 a1.toNat).Hours), eS 1 vt ((ix a0 a1.toNat).Needs), eS 1 (eS 1 vt) ((ix a0 a1.toNat).OneOf), eS 2 ePartCount ((ix a0 a1.toNat).Parts)]) rfl c2 rfl) ?_
 refine jko 2 (.d2 (.k2 (.i 5 (.ptr 0 0 0) .n))) [some (.row 6 [.agg [vt ((ix a0 a1.toNat).Name), vi ((ix a0 a1.toNat).Cents), vi ((ix a0 a1.toNat).Hours), eS 1 vt ((ix a0 a1.toNat).Needs), eS 1 (eS 1 vt) ((ix a0 a1.toNat).OneOf), eS 2 ePartCount ((ix a0 a1.toNat).Parts)]])] ?_
 refine sk (.k3 (.i 6 (.fn (.func 156) [] []) .n)) ?_
 refine q7 ?_
 refine sj ?_
 refine rk 2 (.k4 (.i 17 (vt ((ix a0 a1.toNat).Name)) .n)) ?_
 refine bK h fun y1 hy1 h => ?_
 refine jc 18 [17] (restore_isName_ok n ((ix a0 a1.toNat).Name) y1 hy1) ?_
 refine jk 2 (.d (.k4 (.i 15 (vb (!y1)) .n))) ?_
 refine tc h (fun c3 h => ?_) (fun c3 h => ?_)
 ·refine sk (.i 4 (vi 4) .n) ?_
  refine q3 ?_
  have h := si h
  subst h
  exact DoneS.ret (S' := ⟨[(4, vi 4)], []⟩) (sc [] (by decide) (by kernel_rfl) ObRen.nil rfl rfl) rfl rfl
 refine sj ?_
 refine rk 3 (.k4 (.i 21 (eS 6 eTask a0) (.i 23 (vt ((ix a0 a1.toNat).Name)) .n))) ?_
 refine bK h fun y2 hy2 h => ?_
 refine jc 24 [21, 23] (restore_list_find_ok n a0 ((ix a0 a1.toNat).Name) y2 hy2) ?_
 refine jk 3 (.d (.k (.d (.k2 (.i 20 (vb (decide (y2 < a1))) .n))))) ?_
 refine tc h (fun c4 h => ?_) (fun c4 h => ?_)
 ·refine sk (.i 4 (vi 5) .n) ?_
  refine q3 ?_
  have h := si h
  subst h
  exact DoneS.ret (S' := ⟨[(4, vi 5)], []⟩) (sc [] (by decide) (by kernel_rfl) ObRen.nil rfl rfl) rfl rfl
 refine sj ?_
 refine rk 2 (.k3 (.i 29 (vi ((ix a0 a1.toNat).Cents)) .n)) ?_
 refine bK h fun y3 hy3 h => ?_
 refine jc 30 [29, (ki 0), (ki 1000000000)] (restore_within_ok n ((ix a0 a1.toNat).Cents) 0 1000000000 y3 hy3) ?_
 refine rk 2 (.d (.k3 (.i 32 (vb (!((decide (0 ≤ ((ix a0 a1.toNat).Cents))) && (decide (((ix a0 a1.toNat).Cents) ≤ 1000000000))))) .n))) ?_
 refine gj (.ptr 0 0 2) 33 (.faddr 2 5) 32 false rfl ?_
 refine gk (vi ((ix a0 a1.toNat).Hours)) 34 (.load false 1 33) 32 false rfl (fun hg => (.cons hg .nil)) ?_
 refine bK h fun y4 hy4 h => ?_
 refine gc 35 [34, (ki 0), (ki 10000)] 32 false rfl (fun hg => restore_within_ok n ((ix a0 a1.toNat).Hours) 0 10000 y4 (gcall_some hy4 hg)) (fun hg => (.cons rfl (.cons hg (.cons rfl (.cons rfl .nil))))) (fun hg => by kernel_rfl) ?_
 refine gk (vb (!((decide (0 ≤ ((ix a0 a1.toNat).Hours))) && (decide (((ix a0 a1.toNat).Hours) ≤ 10000))))) 36 (.un .not 35) 32 false rfl (fun hg => (.cons hg .nil)) ?_
 refine po 37 32 36 rfl rfl ?_
 refine jk 1 (.d4 (.d (.k3 (.i 27 (vb ((!((decide (0 ≤ ((ix a0 a1.toNat).Cents))) && (decide (((ix a0 a1.toNat).Cents) ≤ 1000000000)))) || (!((decide (0 ≤ ((ix a0 a1.toNat).Hours))) && (decide (((ix a0 a1.toNat).Hours) ≤ 10000)))))) .n)))) ?_
 refine tc h (fun c5 h => ?_) (fun c5 h => ?_)
 ·refine sk (.i 4 (vi 2) .n) ?_
  refine q3 ?_
  have h := si h
  subst h
  exact DoneS.ret (S' := ⟨[(4, vi 2)], []⟩) (sc [] (by decide) (by kernel_rfl) ObRen.nil rfl rfl) rfl rfl
 refine sj ?_
 refine rk 2 (.k3 (.i 40 (eS 1 vt ((ix a0 a1.toNat).Needs)) .n)) ?_
 refine jo 41 (.len 0 40) (ok_len_m rfl) ?_
 refine jo 42 (.bin .gtr false 41 (ki 10)) (n_gtr (i := ((ix a0 a1.toNat).Needs).length) (j := 10) rfl rfl) ?_
 refine rk 1 (.d2 (.k3 (.i 43 (vb (decide (10 < (((ix a0 a1.toNat).Needs).length)))) .n))) ?_
 refine gj (.ptr 0 0 4) 44 (.faddr 4 5) 43 false rfl ?_
 refine gk (eS 1 (eS 1 vt) ((ix a0 a1.toNat).OneOf)) 45 (.load false 1 44) 43 false rfl (fun hg => (.cons hg .nil)) ?_
 refine gv 46 (.len 0 45) 43 false rfl (fun hg => (ok_len_m rfl)) (fun hg => (.cons hg .nil)) ?_
 refine gv 47 (.bin .gtr false 46 (ki 6)) 43 false rfl (fun hg => (n_gtr (i := ((ix a0 a1.toNat).OneOf).length) (j := 6) rfl rfl)) (fun hg => (.cons hg (.cons rfl .nil))) ?_
 refine po 48 43 47 rfl rfl ?_
 refine rk 1 (.d4 (.d (.k3 (.i 49 (vb ((decide (10 < (((ix a0 a1.toNat).Needs).length))) || (decide (6 < (((ix a0 a1.toNat).OneOf).length))))) .n)))) ?_
 refine gj (.ptr 0 0 4) 50 (.faddr 4 5) 49 false rfl ?_
 refine gk (eS 1 (eS 1 vt) ((ix a0 a1.toNat).OneOf)) 51 (.load false 1 50) 49 false rfl (fun hg => (.cons hg .nil)) ?_
 refine gj (.fn (.func 156) [] []) 52 (.mov 6) 49 false rfl ?_
 refine bK h fun y5 hy5 h => ?_
 refine gc 53 [51, 52] 49 false rfl (fun hg => slices_ContainsFunc_string_ok n ((ix a0 a1.toNat).OneOf) y5 (gcall_some hy5 hg)) (fun hg => (.cons rfl (.cons hg (.cons hg .nil)))) (fun hg => by kernel_rfl) ?_
 refine po 54 49 53 rfl rfl ?_
 refine rk 1 (.d4 (.d (.k2 (.i 55 (vb (((decide (10 < (((ix a0 a1.toNat).Needs).length))) || (decide (6 < (((ix a0 a1.toNat).OneOf).length)))) || y5)) .n)))) ?_
 refine gj (.ptr 0 0 5) 56 (.faddr 5 5) 55 false rfl ?_
 refine gk (eS 2 ePartCount ((ix a0 a1.toNat).Parts)) 57 (.load false 1 56) 55 false rfl (fun hg => (.cons hg .nil)) ?_
 refine gv 58 (.len 0 57) 55 false rfl (fun hg => (ok_len_m rfl)) (fun hg => (.cons hg .nil)) ?_
 refine gv 59 (.bin .gtr false 58 (ki 10)) 55 false rfl (fun hg => (n_gtr (i := ((ix a0 a1.toNat).Parts).length) (j := 10) rfl rfl)) (fun hg => (.cons hg (.cons rfl .nil))) ?_
 refine po 60 55 59 rfl rfl ?_
 refine jk 1 (.d4 (.d (.k2 (.i 38 (vb ((((decide (10 < (((ix a0 a1.toNat).Needs).length))) || (decide (6 < (((ix a0 a1.toNat).OneOf).length)))) || y5) || (decide (10 < (((ix a0 a1.toNat).Parts).length))))) .n)))) ?_
 refine tc h (fun c6 h => ?_) (fun c6 h => ?_)
 ·refine sk (.i 4 (vi 8) .n) ?_
  refine q3 ?_
  have h := si h
  subst h
  exact DoneS.ret (S' := ⟨[(4, vi 8)], []⟩) (sc [] (by decide) (by kernel_rfl) ObRen.nil rfl rfl) rfl rfl
 refine q2 ?_
 refine q1 ?_
 refine sj ?_
 refine rk 3 (.k2 (.i 61 (eS 6 eTask a0) (.i 63 (eS 1 vt ((ix a0 a1.toNat).Needs)) .n))) ?_
 refine bK h fun y6 hy6 h => ?_
 refine jc 64 [61, 63] (restore_list_known_ok n a0 ((ix a0 a1.toNat).Needs) y6 hy6) ?_
 refine jk 1 (.d (.k2 (.i 7 (vi y6) .n))) ?_
 refine sk (.k3 (.i 66 (vb (y6 != (0 : Int))) .n)) ?_
 refine tc h (fun c7 h => ?_) (fun c7 h => ?_)
 ·refine sk (.i 4 (vi y6) .n) ?_
  refine q3 ?_
  have h := si h
  subst h
  exact DoneS.ret (S' := ⟨[(4, vi y6)], []⟩) (sc [] (by decide) (by kernel_rfl) ObRen.nil rfl rfl) rfl rfl
 refine q2 ?_
 refine TriE.seqK h (fun (_ : Unit) => St.mk [(5, .ptr 0 0 0)] [some (.row 6 [.agg [vt ((ix a0 a1.toNat).Name), vi ((ix a0 a1.toNat).Cents), vi ((ix a0 a1.toNat).Hours), eS 1 vt ((ix a0 a1.toNat).Needs), eS 1 (eS 1 vt) ((ix a0 a1.toNat).OneOf), eS 2 ePartCount ((ix a0 a1.toNat).Parts)]])]) ?_ ?_
 ·rintro ⟨⟩ h
  refine sj ?_
  refine rk 2 (.i 86 (eS 2 ePartCount ((ix a0 a1.toNat).Parts)) .n) ?_
  refine bK h fun y10 hy10 h => ?_
  refine jc 87 [86, (ki 1000)] (restore_checkCounts_ok n ((ix a0 a1.toNat).Parts) 1000 y10 hy10) ?_
  refine jk 1 (.i 4 (vi y10) .n) ?_
  refine q3 ?_
  have h := si h
  subst h
  exact DoneS.ret (S' := ⟨[(4, vi y10)], []⟩) (sc [] (by decide) (by kernel_rfl) ObRen.nil rfl rfl) rfl rfl
 intro k1 h
 refine sj ?_
 refine rk 2 (.k2 (.i 69 (eS 1 (eS 1 vt) ((ix a0 a1.toNat).OneOf)) .n)) ?_
 refine jo 70 (.len 0 69) (ok_len_m rfl) ?_
 refine jk 1 (.d (.k3 (.i 70 (vi ((((ix a0 a1.toNat).OneOf).length : Nat) : Int)) (.i 71 (vi 0) .n)))) ?_
 refine q4 ?_
 refine ts (.k4 (.i 71 (vi 0) .n)) ?_
 refine TriE.loopN h (fun (v8 : Nat) => St.mk [(0, eS 6 eTask a0), (5, .ptr 0 0 0), (69, eS 1 (eS 1 vt) ((ix a0 a1.toNat).OneOf)), (70, vi ((((ix a0 a1.toNat).OneOf).length : Nat) : Int)), (71, vi v8)] [some (.row 6 [.agg [vt ((ix a0 a1.toNat).Name), vi ((ix a0 a1.toNat).Cents), vi ((ix a0 a1.toNat).Hours), eS 1 vt ((ix a0 a1.toNat).Needs), eS 1 (eS 1 vt) ((ix a0 a1.toNat).OneOf), eS 2 ePartCount ((ix a0 a1.toNat).Parts)]])]) rfl ?_
 clear h
 rintro back v8 h
 dsimp only [restore_list_checkTask_L1] at h
 refine sj ?_
 refine jo 72 (.bin .lss false 71 70) (n_lss (i := v8) (j := ((ix a0 a1.toNat).OneOf).length) rfl rfl) ?_
 refine jf (.d (.k4 (.k (.i 72 (vb (decide (v8 < (((ix a0 a1.toNat).OneOf).length)))) .n)))) ?_
 refine q1 ?_
 refine tc h (fun c8 h => ?_) (fun c8 h => ?_)
 ·refine q2 ?_
  refine q7 ?_
  refine sj ?_
  refine cK h fun c9 h => ?_
  refine jo 73 (.iaddr 1 69 71) (ok_iaddr_m (j := v8) rfl rfl rfl c9) ?_
  refine jo 74 (.load false 1 73) (ok_load_fm (v := eS 1 vt (ix ((ix a0 a1.toNat).OneOf) v8)) rfl c9 rfl) ?_
  refine jk 1 (.d2 (.k4 (.k (.i 9 (eS 1 vt (ix ((ix a0 a1.toNat).OneOf) v8)) .n)))) ?_
  refine q1 ?_
  refine sj ?_
  refine rk 1 (.k4 (.k2 (.i 75 (eS 1 vt (ix ((ix a0 a1.toNat).OneOf) v8)) .n))) ?_
  refine jo 76 (.len 0 75) (ok_len_m rfl) ?_
  refine jo 77 (.bin .eql false 76 (ki 0)) (n_eql (i := (ix ((ix a0 a1.toNat).OneOf) v8).length) (j := 0) rfl rfl) ?_
  refine jf (.d2 (.k4 (.k2 (.i 77 (vb (decide (((ix ((ix a0 a1.toNat).OneOf) v8).length) = 0))) .n)))) ?_
  refine tc h (fun c10 h => ?_) (fun c10 h => ?_)
  ·refine sk (.i 4 (vi 10) .n) ?_
   refine q3 ?_
   have h := si h
   subst h
   exact DoneS.ret (S' := ⟨[(4, vi 10)], []⟩) (sc [] (by decide) (by kernel_rfl) ObRen.nil rfl rfl) rfl rfl
  refine q2 ?_
  refine sj ?_
  refine rk 2 (.k4 (.k (.i 78 (eS 6 eTask a0) (.i 79 (eS 1 vt (ix ((ix a0 a1.toNat).OneOf) v8)) .n)))) ?_
  refine bK h fun y9 hy9 h => ?_
  refine jc 80 [78, 79] (restore_list_known_ok n a0 (ix ((ix a0 a1.toNat).OneOf) v8) y9 hy9) ?_
  refine jk 1 (.d (.k4 (.k (.i 10 (vi y9) .n)))) ?_
  refine sk (.k4 (.k2 (.i 82 (vb (y9 != (0 : Int))) .n))) ?_
  refine tc h (fun c11 h => ?_) (fun c11 h => ?_)
  ·refine sk (.i 4 (vi y9) .n) ?_
   refine q3 ?_
   have h := si h
   subst h
   exact DoneS.ret (S' := ⟨[(4, vi y9)], []⟩) (sc [] (by decide) (by kernel_rfl) ObRen.nil rfl rfl) rfl rfl
  refine q2 ?_
  refine q6 ?_
  refine cK h fun c12 h => ?_
  refine jo 84 (.bin .add false 71 (ki 1)) (r_addn (i := v8) (j := 1) rfl rfl c12) ?_
  refine jk 1 (.d (.k4 (.i 71 (vi ((v8 + 1 : Nat) : Int)) .n))) ?_
  exact Vs.intro sy ⟨(v8 + 1), rfl, h⟩
 refine q5 ?_
 exact Vs.intro sy ⟨(), rfl, h⟩
theorem restore_CheckTasks_f1_ok (n : Nat) (a0 : Str) (r : Unit) (h : restore_CheckTasks_f1 n a0 = some r) : FnL Tryz.prog 109 [vt a0] [] (vb true) [] := by
 dsimp only [restore_CheckTasks_f1] at h
 refine fo [2] Tryz.call109 Tryz.func109 rfl ?_
 refine sk .n ?_
 refine sk (.i 2 (vb true) .n) ?_
 refine q3 ?_
 have h := si h
 subst h
 exact DoneS.ret Sees.refl rfl rfl
theorem slices_Grow_string_ok (n : Nat) (a0 : Int) (r : (List Str)) (h : slices_Grow_string n a0 = some r) : FnL Tryz.prog 111 [.emp, vi a0] [] (.own 0 0 r.length) [some (.row 1 (List.map vt r))] := by
 dsimp only [slices_Grow_string] at h
 refine fo [4] Tryz.call111 Tryz.func111 rfl ?_
 refine sk .a ?_
 refine q1 ?_
 refine sk (.k2 (.i 6 (vb (decide (a0 < (0 : Int)))) .n)) ?_
 refine tc h (fun c1 h => ?_) (fun c1 h => ?_)
 ·refine q6 ?_
  cases h
 refine q2 ?_
 refine TriE.seqK h (fun (v1 : (List Str)) => St.mk [(0, .own 0 0 v1.length)] [some (.row 1 (List.map vt v1))]) ?_ ?_
 ·rintro v1 h
  refine sk (.i 4 (.own 0 0 v1.length) .n) ?_
  refine q3 ?_
  have h := si h
  subst h
  exact DoneS.ret Sees.refl rfl rfl
 intro k1 h
 refine sj ?_
 refine rk 2 (.k (.i 8 (vi a0) (.i 9 .emp .n))) ?_
 refine RegJ.capE (d := some 10) (x := .t 9) (by kernel_rfl) rfl rfl ?_
 refine rn 2 [(0, .emp), (8, vi a0), (10, vi 0), (12, vi 0)] [] ?_
 refine cK h fun c2 h => ?_
 refine jo 13 (.bin .sub false 10 12) (r_sub rfl rfl c2) ?_
 refine cK h fun c3 h => ?_
 refine jo 14 (.bin .sub false 8 13) (r_sub rfl rfl c3) ?_
 refine jk 1 (.d2 (.k (.i 1 (vi (a0 - ((0 : Int) - 0))) .n))) ?_
 refine sk (.k2 (.i 16 (vb (decide ((0 : Int) < (a0 - ((0 : Int) - 0))))) .n)) ?_
 refine tc h (fun c4 h => ?_) (fun c4 h => ?_)
 ·refine q6 ?_
  refine rk 2 (.k2 (.i 17 .emp (.i 18 .emp .n))) ?_
  refine RegJ.capE (d := some 19) (x := .t 18) (by kernel_rfl) rfl rfl ?_
  refine rn 2 [(0, .emp), (20, .emp), (21, vi (a0 - ((0 : Int) - 0)))] [] ?_
  refine cK h fun c5 h => ?_
  refine cK h fun c6 h => ?_
  refine cK h fun c7 h => ?_
  refine RegJ.appZ (d := some 22) (kk := 1) (b := 16) (n := (a0 - ((0 : Int) - 0)).toNat) (x := .t 20) (y := .t 21) (by kernel_rfl) rfl rfl rfl rfl (nn_to c5) c6 c7 ?_
  refine rn 2 [(22, .own 0 0 ((a0 - ((0 : Int) - 0)).toNat)), (24, vi 0)] [some (.row 1 (List.map vt ([] : List Str)))] ?_
  refine cK h fun c8 h => ?_
  refine jo 25 (.slc 1 22 none (some 24) none) (ok_slco_hi (j := 0) rfl rfl rfl rfl c8) ?_
  refine jk 1 (.i 0 (.own 0 0 (([] : List Str).length)) .n) ?_
  exact Vs.intro sy ⟨([] : List Str), rfl, h⟩
 refine q2 ?_
 exact Vs.intro (Sees.trans (Sees.co (fr' := [(0, .own 0 0 0)]) (ob' := []) (.cons .own .nil) ObCo.nil 1) sy) ⟨([] : List Str), rfl, h⟩
set_option maxHeartbeats 1000000 in
theorem slices_Concat_string_ok (n : Nat) (a0 : List (List Str)) (r : (List Str)) (h : slices_Concat_string n a0 = some r) : FnL Tryz.prog 59 [.own 0 0 a0.length] [some (.row 1 (List.map (eS 1 vt) a0))] (eS 1 vt r) [some (.row 1 (List.map (eS 1 vt) a0))] := by
 dsimp only [slices_Concat_string] at h
 refine fob [2] Tryz.call59 Tryz.func59 rfl (.cons rfl .nil) ?_
 refine sk .a ?_
 refine sk (.k (.i 3 (vi 0) .n)) ?_
 refine TriE.seqK h (fun (v3 : Nat) => St.mk [(0, .own 0 0 a0.length), (3, vi v3)] [some (.row 1 (List.map (eS 1 vt) a0))]) ?_ ?_
 ·rintro v3 h
  refine sj ?_
  refine rk 1 (.k (.i 23 (vi v3) .n)) ?_
  refine bK h fun y4 hy4 h => ?_
  refine jco (.own 1 0 y4.length) 24 [(.c .emp), 23] (slices_Grow_string_ok n (v3 : Int) y4 hy4) [] rfl ObsRen.nil (.same (row_ren vt_frz _ _ _) .nil) rfl ?_
  refine jk 1 (.d (.k (.i 6 (.own 1 0 y4.length) .n))) ?_
  refine TriE.seqK h (fun (v7 : (List Str)) => St.mk [(6, .own 1 0 v7.length)] [some (.row 1 (List.map (eS 1 vt) a0)), some (.row 1 (List.map vt v7))]) ?_ ?_
  ·rintro v7 h
   refine sk (.i 2 (.own 1 0 v7.length) .n) ?_
   refine q3 ?_
   have h := si h
   subst h
   exact DoneS.ret (S' := ⟨[(2, eS 1 vt v7)], [some (.row 1 (List.map (eS 1 vt) a0))]⟩) (Sees.trans (Sees.freeze 1 (fr' := [(2, eS 1 vt v7)]) (ob' := [some (.row 1 (List.map (eS 1 vt) a0)), none]) rfl (frz_row vt_frzE _) (.cons (frz_full rfl) .nil) rfl) (sc [0] (by decide) (by kernel_rfl) (obRen_row (eS_frz 1 vt) rfl .nil) rfl rfl)) rfl rfl
  intro k2 h
  refine sk (.d (.k (.i 25 (.own 0 0 a0.length) (.i 26 (vi (a0.length : Int)) (.i 27 (vi 0) .n))))) ?_
  refine q4 ?_
  refine ts (.k3 (.i 27 (vi 0) .n)) ?_
  refine TriE.loopN h (fun (t : Nat × (List Str)) => match t with | (v5, v6) => St.mk [(6, .own 1 0 v6.length), (25, .own 0 0 a0.length), (26, vi (a0.length : Int)), (27, vi v5)] [some (.row 1 (List.map (eS 1 vt) a0)), some (.row 1 (List.map vt v6))]) rfl ?_
  clear h
  rintro back ⟨v5, v6⟩ h
  dsimp only [slices_Concat_string_L2] at h
  refine sj ?_
  refine jo 28 (.bin .lss false 27 26) (n_lss (i := v5) (j := a0.length) rfl rfl) ?_
  refine jf (.d (.k4 (.i 28 (vb (decide (v5 < a0.length))) .n))) ?_
  refine q1 ?_
  refine tc h (fun c5 h => ?_) (fun c5 h => ?_)
  ·refine q2 ?_
   refine q7 ?_
   refine sj ?_
   refine jo 29 (.iaddr 1 25 27) (ok_iaddr_o0 (j := v5) rfl rfl rfl rfl c5) ?_
   refine jo 30 (.load false 1 29) (ok_load_pm (l := a0) (e := (eS 1 vt)) (v := eS 1 vt (ix a0 v5)) rfl rfl c5 rfl) ?_
   refine jk 1 (.d2 (.k4 (.i 8 (eS 1 vt (ix a0 v5)) .n))) ?_
   refine q6 ?_
   refine rk 2 (.d (.k3 (.i 31 (.own 1 0 v6.length) (.i 32 (eS 1 vt (ix a0 v5)) .n)))) ?_
   refine cK h fun c6 h => ?_
   refine jx 33 (.app 1 16 31 32) _ (ok_app_own (l := v6) (l2 := (ix a0 v5)) (e := vt) (u := eS 1 vt (ix a0 v5)) rfl rfl rfl rfl els_sl c6) rfl rfl ?_
   refine jk 1 (.d (.k3 (.i 6 (.own 2 0 ((v6 ++ (ix a0 v5)).length)) .n))) ?_
   refine q6 ?_
   refine cK h fun c7 h => ?_
   refine jo 34 (.bin .add false 27 (ki 1)) (r_addn (i := v5) (j := 1) rfl rfl c7) ?_
   refine jk 1 (.d (.k2 (.d (.k (.i 27 (vi ((v5 + 1 : Nat) : Int)) .n))))) ?_
   exact Vs.intro (sc [0, 2] (by decide) (by kernel_rfl) (obRen_row (eS_frz 1 vt) rfl (obRen_row vt_frz rfl .nil)) rfl rfl) ⟨(v5 + 1, (v6 ++ (ix a0 v5))), rfl, h⟩
  refine q5 ?_
  exact Vs.intro sy ⟨v6, rfl, h⟩
 intro k1 h
 refine sk (.k2 (.i 9 (.own 0 0 a0.length) (.i 10 (vi (a0.length : Int)) (.i 11 (vi 0) .n)))) ?_
 refine q4 ?_
 refine ts (.k (.i 3 (vi 0) (.d (.k2 (.i 11 (vi 0) .n))))) ?_
 refine TriE.loopN h (fun (t : Nat × Nat) => match t with | (v1, v2) => St.mk [(0, .own 0 0 a0.length), (3, vi v1), (9, .own 0 0 a0.length), (10, vi (a0.length : Int)), (11, vi v2)] [some (.row 1 (List.map (eS 1 vt) a0))]) rfl ?_
 clear h
 rintro back ⟨v1, v2⟩ h
 dsimp only [slices_Concat_string_L1] at h
 refine sj ?_
 refine jo 12 (.bin .lss false 11 10) (n_lss (i := v2) (j := a0.length) rfl rfl) ?_
 refine jf (.d (.k4 (.k (.i 12 (vb (decide (v2 < a0.length))) .n)))) ?_
 refine q1 ?_
 refine tc h (fun c1 h => ?_) (fun c1 h => ?_)
 ·refine q2 ?_
  refine q7 ?_
  refine sj ?_
  refine jo 13 (.iaddr 1 9 11) (ok_iaddr_o0 (j := v2) rfl rfl rfl rfl c1) ?_
  refine jo 14 (.load false 1 13) (ok_load_pm (l := a0) (e := (eS 1 vt)) (v := eS 1 vt (ix a0 v2)) rfl rfl c1 rfl) ?_
  refine jk 1 (.d2 (.k4 (.k (.i 5 (eS 1 vt (ix a0 v2)) .n)))) ?_
  refine sj ?_
  refine rk 2 (.k (.d (.k3 (.i 15 (vi v1) (.i 16 (eS 1 vt (ix a0 v2)) .n))))) ?_
  refine jo 17 (.len 0 16) (ok_len_m rfl) ?_
  refine cK h fun c2 h => ?_
  refine jo 18 (.bin .add false 15 17) (r_addn (i := v1) (j := (ix a0 v2).length) rfl rfl c2) ?_
  refine jk 1 (.d2 (.k4 (.i 3 (vi ((v1 + ((ix a0 v2).length) : Nat) : Int)) .n))) ?_
  refine sj ?_
  refine rk 1 (.k4 (.k (.i 19 (vi ((v1 + ((ix a0 v2).length) : Nat) : Int)) .n))) ?_
  refine jo 20 (.bin .lss false 19 (ki 0)) (n_lss (i := v1 + ((ix a0 v2).length)) (j := 0) rfl rfl) ?_
  refine jf (.d (.k4 (.k (.i 20 (vb (decide ((v1 + ((ix a0 v2).length)) < 0))) .n)))) ?_
  refine tc h (fun c3 h => ?_) (fun c3 h => ?_)
  ·refine q6 ?_
   cases h
  refine q2 ?_
  refine q6 ?_
  refine cK h fun c4 h => ?_
  refine jo 22 (.bin .add false 11 (ki 1)) (r_addn (i := v2) (j := 1) rfl rfl c4) ?_
  refine jk 1 (.d (.k3 (.d (.k (.i 11 (vi ((v2 + 1 : Nat) : Int)) .n))))) ?_
  exact Vs.intro sy ⟨(v1 + ((ix a0 v2).length), v2 + 1), rfl, h⟩
 refine q5 ?_
 exact Vs.intro sy ⟨v1, rfl, h⟩
theorem restore_leads_ok (n : Nat) (a0 : Task) (r : (List Str)) (h : restore_leads n a0 = some r) : FnL Tryz.prog 164 [.agg [vt a0.Name, vi a0.Cents, vi a0.Hours, eS 1 vt a0.Needs, eS 1 (eS 1 vt) a0.OneOf, eS 2 ePartCount a0.Parts]] [] (eS 1 vt r) [] := by
 dsimp only [restore_leads] at h
 refine fo [2] Tryz.call164 Tryz.func164 rfl ?_
 refine sko (.i 1 (.ptr 0 0 0) .n) [some (.row 6 [.agg [vt a0.Name, vi a0.Cents, vi a0.Hours, eS 1 vt a0.Needs, eS 1 (eS 1 vt) a0.OneOf, eS 2 ePartCount a0.Parts]])] ?_
 refine sj ?_
 refine rko 5 (.i 5 (.own 1 0 1) (.i 7 (eS 1 (eS 1 vt) a0.OneOf) .n)) [some (.row 6 [.agg [vt a0.Name, vi a0.Cents, vi a0.Hours, eS 1 vt a0.Needs, eS 1 (eS 1 vt) a0.OneOf, eS 2 ePartCount a0.Parts]]), some (.row 1 [eS 1 vt a0.Needs])] ?_
 refine cK h fun c1 h => ?_
 refine jx 8 (.app 1 24 5 7) _ (ok_app_own (l := ([a0.Needs] : List (List Str))) (l2 := a0.OneOf) (e := (eS 1 vt)) (u := eS 1 (eS 1 vt) a0.OneOf) rfl rfl rfl rfl els_sl c1) rfl rfl ?_
 refine bK h fun y1 hy1 h => ?_
 refine jco (eS 1 vt y1) 9 [8] (slices_Concat_string_ok n (([a0.Needs] : List (List Str)) ++ a0.OneOf) y1 hy1) [2] rfl (.same (row_ren (eS_frz 1 vt) _ _ _) .nil) (.same (row_ren (eS_frz 1 vt) _ _ _) .nil) rfl ?_
 refine jk 1 (.i 2 (eS 1 vt y1) .n) ?_
 refine q3 ?_
 have h := si h
 subst h
 exact DoneS.ret (S' := ⟨[(2, eS 1 vt y1)], []⟩) (sc [] (by decide) (by kernel_rfl) ObRen.nil rfl rfl) rfl rfl
theorem slices_Index_string_2_ok (n : Nat) (a0 : List Str) (a1 : Str) (r : Int) (h : slices_Index_string_2 n a0 a1 = some r) : FnL Tryz.prog 53 [.own 0 0 a0.length, vt a1] [some (.row 1 (List.map vt a0))] (vi r) [some (.row 1 (List.map vt a0))] := by
 dsimp only [slices_Index_string_2] at h
 refine fob [4] Tryz.call53 Tryz.func53 rfl (.cons rfl .nil) ?_
 refine sk .a ?_
 refine TriE.seqK h (fun (_ : Unit) => St.mk [] [some (.row 1 (List.map vt a0))]) ?_ ?_
 ·rintro ⟨⟩ h
  refine sk (.i 4 (vi (-1)) .n) ?_
  refine q3 ?_
  have h := si h
  subst h
  exact DoneS.ret Sees.refl rfl rfl
 intro k1 h
 refine sk (.k2 (.i 7 (vi (a0.length : Int)) (.i 8 (vi 0) .n))) ?_
 refine q4 ?_
 refine ts (.k3 (.i 8 (vi 0) .n)) ?_
 refine TriE.loopN h (fun (v1 : Nat) => St.mk [(0, .own 0 0 a0.length), (1, vt a1), (7, vi (a0.length : Int)), (8, vi v1)] [some (.row 1 (List.map vt a0))]) rfl ?_
 clear h
 rintro back v1 h
 dsimp only [slices_Index_string_2_L1] at h
 refine sj ?_
 refine jo 9 (.bin .lss false 8 7) (n_lss (i := v1) (j := a0.length) rfl rfl) ?_
 refine jf (.d (.k4 (.i 9 (vb (decide (v1 < a0.length))) .n))) ?_
 refine q1 ?_
 refine tc h (fun c1 h => ?_) (fun c1 h => ?_)
 ·refine q2 ?_
  refine q7 ?_
  refine sk (.k4 (.i 5 (vi v1) .n)) ?_
  refine sj ?_
  refine rk 3 (.k4 (.k (.i 11 (vt a1) (.i 12 (.own 0 0 a0.length) (.i 13 (vi v1) .n))))) ?_
  refine jo 14 (.iaddr 1 12 13) (ok_iaddr_o0 (j := v1) rfl rfl rfl rfl c1) ?_
  refine jo 15 (.load false 1 14) (ok_load_pm (l := a0) (e := vt) (v := vt (ix a0 v1)) rfl rfl c1 rfl) ?_
  refine jk 1 (.d2 (.k4 (.k (.i 16 (vb (a1 == (ix a0 v1))) .n)))) ?_
  refine tc h (fun c2 h => ?_) (fun c2 h => ?_)
  ·refine sk (.i 4 (vi v1) .n) ?_
   refine q3 ?_
   have h := si h
   subst h
   exact DoneS.ret Sees.refl rfl rfl
  refine q2 ?_
  refine q6 ?_
  refine cK h fun c3 h => ?_
  refine jo 18 (.bin .add false 8 (ki 1)) (r_addn (i := v1) (j := 1) rfl rfl c3) ?_
  refine jk 1 (.d (.k3 (.i 8 (vi ((v1 + 1 : Nat) : Int)) .n))) ?_
  exact Vs.intro sy ⟨(v1 + 1), rfl, h⟩
 refine q5 ?_
 exact Vs.intro sy ⟨(), rfl, h⟩
theorem slices_Contains_string_2_ok (n : Nat) (a0 : List Str) (a1 : Str) (r : Bool) (h : slices_Contains_string_2 n a0 a1 = some r) : FnL Tryz.prog 142 [.own 0 0 a0.length, vt a1] [some (.row 1 (List.map vt a0))] (vb r) [some (.row 1 (List.map vt a0))] := by
 dsimp only [slices_Contains_string_2] at h
 refine fob [4] Tryz.call142 Tryz.func142 rfl (.cons rfl .nil) ?_
 refine sk .a ?_
 refine sj ?_
 refine rk 2 (.i 5 (.own 0 0 a0.length) (.i 6 (vt a1) .n)) ?_
 refine bK h fun y1 hy1 h => ?_
 refine jco (vi y1) 7 [5, 6] (slices_Index_string_2_ok n a0 a1 y1 hy1) [0] rfl (.same (row_ren vt_frz _ _ _) .nil) (.same (row_ren vt_frz _ _ _) .nil) rfl ?_
 refine jk 2 (.i 4 (vb (decide ((0 : Int) ≤ y1))) .n) ?_
 refine q3 ?_
 have h := si h
 subst h
 exact DoneS.ret Sees.refl rfl rfl
theorem restore_list_order_f1_2_ok (n : Nat) (a0 : Str) (a1 : List Str) (r : Bool) (h : restore_list_order_f1_2 n a0 a1 = some r) : FnL Tryz.prog 160 [vt a0, .ptr 0 0 0, .ptr 1 0 0] [some (.row 1 [.fn (.func 109) [] []]), some (.row 1 [.own 2 0 a1.length]), some (.row 1 (List.map vt a1))] (vb r) [some (.row 1 [.fn (.func 109) [] []]), some (.row 1 [.own 2 0 a1.length]), some (.row 1 (List.map vt a1))] := by
 dsimp only [restore_list_order_f1_2] at h
 refine fob [4] Tryz.call160 Tryz.func160 rfl (.cons rfl (.cons rfl (.cons rfl .nil))) ?_
 refine sk .a ?_
 refine sj ?_
 refine rk 2 (.k (.d (.k (.i 5 (.fn (.func 109) [] []) (.i 6 (vt a0) .n))))) ?_
 refine bK h fun y1 hy1 h => ?_
 refine jy (vb true) 7 5 [6] rfl (restore_CheckTasks_f1_ok n a0 y1 hy1) [] rfl ObsRen.nil ObsRen.nil rfl ?_
 refine rk 1 (.d (.k2 (.i 8 (vb true) .n))) ?_
 refine gj (.own 2 0 a1.length) 9 (.load false 1 2) 8 true rfl ?_
 refine gj (vt a0) 10 (.mov 0) 8 true rfl ?_
 refine bK h fun y2 hy2 h => ?_
 refine RegJ.op (Op1.callg (g := true) (y' := vb y2) (obx := [some (.row 1 (List.map vt a1))]) _ _ (cy (IG 11 (.call 142 [9, 10]) 8 true)) rfl (fun hg => slices_Contains_string_2_ok n a1 a0 y2 (gcall_some hy2 hg)) [2] (fun hg => by kernel_rfl) (fun hg => (.cons rfl (.cons hg (.cons hg .nil)))) (by kernel_rfl) (by kernel_rfl) (.same (row_ren vt_frz _ _ _) .nil) (by kernel_rfl) (by kernel_rfl)) ?_
 refine gk (vb (!y2)) 12 (.un .not 11) 8 true rfl (fun hg => (.cons hg .nil)) ?_
 refine pa 13 8 12 rfl rfl ?_
 refine jk 1 (.i 4 (vb (true && (!y2))) .n) ?_
 refine q3 ?_
 have h := si h
 subst h
 exact DoneS.ret Sees.refl rfl rfl
theorem slices_IndexFunc_string_3_ok (n : Nat) (a0 : List Str) (a1 : List Str) (r : Int) (h : slices_IndexFunc_string_3 n a0 a1 = some r) : FnL Tryz.prog 219 [eS 1 vt a0, .fn (.func 160) [] [.ptr 0 0 0, .ptr 1 0 0]] [some (.row 1 [.fn (.func 109) [] []]), some (.row 1 [.own 2 0 a1.length]), some (.row 1 (List.map vt a1))] (vi r) [some (.row 1 [.fn (.func 109) [] []]), some (.row 1 [.own 2 0 a1.length]), some (.row 1 (List.map vt a1))] := by
 dsimp only [slices_IndexFunc_string_3] at h
 refine fob [4] Tryz.call219 Tryz.func219 rfl (.cons rfl (.cons rfl (.cons rfl .nil))) ?_
 refine sk .a ?_
 refine TriE.seqK h (fun (_ : Unit) => St.mk [] [some (.row 1 [.fn (.func 109) [] []]), some (.row 1 [.own 2 0 a1.length]), some (.row 1 (List.map vt a1))]) ?_ ?_
 ·rintro ⟨⟩ h
  refine sk (.i 4 (vi (-1)) .n) ?_
  refine q3 ?_
  have h := si h
  subst h
  exact DoneS.ret Sees.refl rfl rfl
 intro k1 h
 refine sj ?_
 refine rk 1 (.k2 (.i 6 (eS 1 vt a0) .n)) ?_
 refine jo 7 (.len 0 6) (ok_len_m rfl) ?_
 refine jk 1 (.d (.k2 (.i 7 (vi (a0.length : Int)) (.i 8 (vi 0) .n)))) ?_
 refine q4 ?_
 refine ts (.k3 (.i 8 (vi 0) .n)) ?_
 refine TriE.loopN h (fun (v2 : Nat) => St.mk [(0, eS 1 vt a0), (1, .fn (.func 160) [] [.ptr 0 0 0, .ptr 1 0 0]), (7, vi (a0.length : Int)), (8, vi v2)] [some (.row 1 [.fn (.func 109) [] []]), some (.row 1 [.own 2 0 a1.length]), some (.row 1 (List.map vt a1))]) rfl ?_
 clear h
 rintro back v2 h
 dsimp only [slices_IndexFunc_string_3_L1] at h
 refine sj ?_
 refine jo 9 (.bin .lss false 8 7) (n_lss (i := v2) (j := a0.length) rfl rfl) ?_
 refine jf (.d (.k4 (.i 9 (vb (decide (v2 < a0.length))) .n))) ?_
 refine q1 ?_
 refine tc h (fun c1 h => ?_) (fun c1 h => ?_)
 ·refine q2 ?_
  refine q7 ?_
  refine sk (.k4 (.i 5 (vi v2) .n)) ?_
  refine sj ?_
  refine rk 3 (.k4 (.k (.i 11 (.fn (.func 160) [] [.ptr 0 0 0, .ptr 1 0 0]) (.i 12 (eS 1 vt a0) (.i 13 (vi v2) .n))))) ?_
  refine jo 14 (.iaddr 1 12 13) (ok_iaddr_m (j := v2) rfl rfl rfl c1) ?_
  refine jo 15 (.load false 1 14) (ok_load_fm (v := vt (ix a0 v2)) rfl c1 rfl) ?_
  refine bK h fun y3 hy3 h => ?_
  refine jy (vb y3) 16 11 [15] rfl (restore_list_order_f1_2_ok n (ix a0 v2) a1 y3 hy3) [0, 1, 2] rfl (.cons rfl (.cons rfl (.same (row_ren vt_frz _ _ _) .nil))) (.cons rfl (.cons rfl (.same (row_ren vt_frz _ _ _) .nil))) rfl ?_
  refine jf (.d3 (.k4 (.k (.i 16 (vb y3) .n)))) ?_
  refine tc h (fun c2 h => ?_) (fun c2 h => ?_)
  ·refine sk (.i 4 (vi v2) .n) ?_
   refine q3 ?_
   have h := si h
   subst h
   exact DoneS.ret Sees.refl rfl rfl
  refine q2 ?_
  refine q6 ?_
  refine cK h fun c3 h => ?_
  refine jo 18 (.bin .add false 8 (ki 1)) (r_addn (i := v2) (j := 1) rfl rfl c3) ?_
  refine jk 1 (.d (.k3 (.i 8 (vi ((v2 + 1 : Nat) : Int)) .n))) ?_
  exact Vs.intro sy ⟨(v2 + 1), rfl, h⟩
 refine q5 ?_
 exact Vs.intro sy ⟨(), rfl, h⟩
theorem slices_ContainsFunc_string_3_ok (n : Nat) (a0 : List Str) (a1 : List Str) (r : Bool) (h : slices_ContainsFunc_string_3 n a0 a1 = some r) : FnL Tryz.prog 163 [eS 1 vt a0, .fn (.func 160) [] [.ptr 0 0 0, .ptr 1 0 0]] [some (.row 1 [.fn (.func 109) [] []]), some (.row 1 [.own 2 0 a1.length]), some (.row 1 (List.map vt a1))] (vb r) [some (.row 1 [.fn (.func 109) [] []]), some (.row 1 [.own 2 0 a1.length]), some (.row 1 (List.map vt a1))] := by
 dsimp only [slices_ContainsFunc_string_3] at h
 refine fob [4] Tryz.call163 Tryz.func163 rfl (.cons rfl (.cons rfl (.cons rfl .nil))) ?_
 refine sk .a ?_
 refine sj ?_
 refine rk 2 (.i 5 (eS 1 vt a0) (.i 6 (.fn (.func 160) [] [.ptr 0 0 0, .ptr 1 0 0]) .n)) ?_
 refine bK h fun y1 hy1 h => ?_
 refine jco (vi y1) 7 [5, 6] (slices_IndexFunc_string_3_ok n a0 a1 y1 hy1) [0, 1, 2] rfl (.cons rfl (.cons rfl (.same (row_ren vt_frz _ _ _) .nil))) (.cons rfl (.cons rfl (.same (row_ren vt_frz _ _ _) .nil))) rfl ?_
 refine jk 2 (.i 4 (vb (decide ((0 : Int) ≤ y1))) .n) ?_
 refine q3 ?_
 have h := si h
 subst h
 exact DoneS.ret Sees.refl rfl rfl
theorem restore_list_order_f2_2_ok (n : Nat) (a0 : Task) (a1 : List Str) (r : Bool) (h : restore_list_order_f2_2 n a0 a1 = some r) : FnL Tryz.prog 162 [.agg [vt a0.Name, vi a0.Cents, vi a0.Hours, eS 1 vt a0.Needs, eS 1 (eS 1 vt) a0.OneOf, eS 2 ePartCount a0.Parts], .ptr 0 0 0] [some (.row 1 [.fn (.func 160) [] [.ptr 1 0 0, .ptr 2 0 0]]), some (.row 1 [.fn (.func 109) [] []]), some (.row 1 [.own 3 0 a1.length]), some (.row 1 (List.map vt a1))] (vb r) [some (.row 1 [.fn (.func 160) [] [.ptr 1 0 0, .ptr 2 0 0]]), some (.row 1 [.fn (.func 109) [] []]), some (.row 1 [.own 3 0 a1.length]), some (.row 1 (List.map vt a1))] := by
 dsimp only [restore_list_order_f2_2] at h
 refine fob [3] Tryz.call162 Tryz.func162 rfl (.cons rfl (.cons rfl (.cons rfl (.cons rfl .nil)))) ?_
 refine sko (.d (.k (.i 2 (.ptr 4 0 0) .n))) [some (.row 1 [.fn (.func 160) [] [.ptr 1 0 0, .ptr 2 0 0]]), some (.row 1 [.fn (.func 109) [] []]), some (.row 1 [.own 3 0 a1.length]), some (.row 1 (List.map vt a1)), some (.row 6 [.agg [vt a0.Name, vi a0.Cents, vi a0.Hours, eS 1 vt a0.Needs, eS 1 (eS 1 vt) a0.OneOf, eS 2 ePartCount a0.Parts]])] ?_
 refine q1 ?_
 refine ts .a ?_
 refine TriE.draw (by kernel_rfl) ?_
 refine dk 3 (.i 6 (vt a0.Name) (.i 5 (.ptr 4 0 0) (.i 4 (.fn (.func 160) [] [.ptr 1 0 0, .ptr 2 0 0]) .a))) ?_
 refine bK h fun y1 hy1 h => ?_
 refine RegD.op (OpD.dyn (y' := vb y1) (obx := [some (.row 1 [.fn (.func 109) [] []]), some (.row 1 [.own 3 0 a1.length]), some (.row 1 (List.map vt a1))]) (oby := [some (.row 1 [.fn (.func 109) [] []]), some (.row 1 [.own 3 0 a1.length]), some (.row 1 (List.map vt a1))]) (ob2 := [some (.row 1 [.fn (.func 160) [] [.ptr 1 0 0, .ptr 2 0 0]]), some (.row 1 [.fn (.func 109) [] []]), some (.row 1 [.own 3 0 a1.length]), some (.row 1 (List.map vt a1)), some (.row 6 [.agg [vt a0.Name, vi a0.Cents, vi a0.Hours, eS 1 vt a0.Needs, eS 1 (eS 1 vt) a0.OneOf, eS 2 ePartCount a0.Parts]]), none, none, none, none]) (tch := []) 0 _ _ _ (cy (I0 7 (.dyn 4 [6]))) rfl (restore_list_order_f1_2_ok n a0.Name a1 y1 hy1) [1, 2, 3] (by kernel_rfl) (.cons rfl (.cons rfl .nil)) (by kernel_rfl) (by kernel_rfl) (.cons rfl (.cons rfl (.same (row_ren vt_frz _ _ _) .nil))) (by kernel_rfl) (.cons rfl (.cons rfl (.same (row_ren vt_frz _ _ _) .nil))) (by kernel_rfl) rfl (.inr ⟨rfl, rfl⟩)) ?_
 refine dk 1 (.i 8 (vb y1) .a) ?_
 refine gd y1 (.agg [vt a0.Name, vi a0.Cents, vi a0.Hours, eS 1 vt a0.Needs, eS 1 (eS 1 vt) a0.OneOf, eS 2 ePartCount a0.Parts]) 9 (.load true 6 2) 8 true rfl (fun hg => (.cons rfl .nil)) ?_
 refine bK h fun y2 hy2 h => ?_
 refine du y1 10 [9] 8 true rfl (fun hg => restore_leads_ok n a0 y2 (gcall_some hy2 hg)) (fun hg => (.cons rfl (.cons hg .nil))) (fun hg => by kernel_rfl) ?_
 refine gd y1 (.fn (.func 160) [] [.ptr 1 0 0, .ptr 2 0 0]) 11 (.load false 1 1) 8 true rfl (fun hg => (.cons rfl .nil)) ?_
 refine bK h fun y3 hy3 h => ?_
 refine RegD.op (OpD.callg (g := y1) (y' := vb y3) (obx := [some (.row 1 [.fn (.func 109) [] []]), some (.row 1 [.own 3 0 a1.length]), some (.row 1 (List.map vt a1))]) _ _ (cy (IG 12 (.call 163 [10, 11]) 8 true)) rfl (fun hg => slices_ContainsFunc_string_3_ok n y2 a1 y3 (gcall_some hy3 hg)) [1, 2, 3] (fun hg => by kernel_rfl) (fun hg => (.cons rfl (.cons hg (.cons hg .nil)))) (by kernel_rfl) (by kernel_rfl) (.cons rfl (.cons rfl (.same (row_ren vt_frz _ _ _) .nil))) (by kernel_rfl) (by kernel_rfl) rfl) ?_
 refine gd y1 (vb (!y3)) 13 (.un .not 12) 8 true rfl (fun hg => (.cons hg .nil)) ?_
 refine RegD.op (OpD.and (cy (I0 14 (.pick 8 13 (.c (.p (.bool false)))))) rfl rfl (by first | exact hokA1 | exact hokA0 | simp)) ?_
 refine dk 1 (.i 3 (vb (y1 && (!y3))) (.i 14 (vb (y1 && (!y3))) (.d .a))) ?_
 refine dfi (ob' := [some (.row 1 [.fn (.func 160) [] [.ptr 1 0 0, .ptr 2 0 0]]), some (.row 1 [.fn (.func 109) [] []]), some (.row 1 [.own 3 0 a1.length]), some (.row 1 (List.map vt a1))]) (.k .n) [0, 1, 2, 3] (.cons rfl (.cons rfl (.cons rfl (obRen_row vt_frz rfl .nil)))) ?_
 refine q3 ?_
 have h := si h
 subst h
 exact DoneS.ret Sees.refl rfl rfl
theorem slices_IndexFunc_Task_3_ok (n : Nat) (a0 : List Task) (a1 : List Str) (r : Int) (h : slices_IndexFunc_Task_3 n a0 a1 = some r) : FnL Tryz.prog 161 [eS 6 eTask a0, .fn (.func 162) [] [.ptr 0 0 0]] [some (.row 1 [.fn (.func 160) [] [.ptr 1 0 0, .ptr 2 0 0]]), some (.row 1 [.fn (.func 109) [] []]), some (.row 1 [.own 3 0 a1.length]), some (.row 1 (List.map vt a1))] (vi r) [some (.row 1 [.fn (.func 160) [] [.ptr 1 0 0, .ptr 2 0 0]]), some (.row 1 [.fn (.func 109) [] []]), some (.row 1 [.own 3 0 a1.length]), some (.row 1 (List.map vt a1))] := by
 dsimp only [slices_IndexFunc_Task_3] at h
 refine fob [4] Tryz.call161 Tryz.func161 rfl (.cons rfl (.cons rfl (.cons rfl (.cons rfl .nil)))) ?_
 refine sk .a ?_
 refine TriE.seqK h (fun (_ : Unit) => St.mk [] [some (.row 1 [.fn (.func 160) [] [.ptr 1 0 0, .ptr 2 0 0]]), some (.row 1 [.fn (.func 109) [] []]), some (.row 1 [.own 3 0 a1.length]), some (.row 1 (List.map vt a1))]) ?_ ?_
 ·rintro ⟨⟩ h
  refine sk (.i 4 (vi (-1)) .n) ?_
  refine q3 ?_
  have h := si h
  subst h
  exact DoneS.ret Sees.refl rfl rfl
 intro k1 h
 refine sj ?_
 refine rk 1 (.k2 (.i 6 (eS 6 eTask a0) .n)) ?_
 refine jo 7 (.len 0 6) (ok_len_m rfl) ?_
 refine jk 1 (.d (.k2 (.i 7 (vi (a0.length : Int)) (.i 8 (vi 0) .n)))) ?_
 refine q4 ?_
 refine ts (.k3 (.i 8 (vi 0) .n)) ?_
 refine TriE.loopN h (fun (v2 : Nat) => St.mk [(0, eS 6 eTask a0), (1, .fn (.func 162) [] [.ptr 0 0 0]), (7, vi (a0.length : Int)), (8, vi v2)] [some (.row 1 [.fn (.func 160) [] [.ptr 1 0 0, .ptr 2 0 0]]), some (.row 1 [.fn (.func 109) [] []]), some (.row 1 [.own 3 0 a1.length]), some (.row 1 (List.map vt a1))]) rfl ?_
 clear h
 rintro back v2 h
 dsimp only [slices_IndexFunc_Task_3_L1] at h
 refine sj ?_
 refine jo 9 (.bin .lss false 8 7) (n_lss (i := v2) (j := a0.length) rfl rfl) ?_
 refine jf (.d (.k4 (.i 9 (vb (decide (v2 < a0.length))) .n))) ?_
 refine q1 ?_
 refine tc h (fun c1 h => ?_) (fun c1 h => ?_)
 ·refine q2 ?_
  refine q7 ?_
  refine sk (.k4 (.i 5 (vi v2) .n)) ?_
  refine sj ?_
  refine rk 3 (.k4 (.k (.i 11 (.fn (.func 162) [] [.ptr 0 0 0]) (.i 12 (eS 6 eTask a0) (.i 13 (vi v2) .n))))) ?_
  refine jo 14 (.iaddr 6 12 13) (ok_iaddr_m (j := v2) rfl rfl rfl c1) ?_
  refine jo 15 (.load true 6 14) (ok_load_fm (v := .agg [vt ((ix a0 v2).Name), vi ((ix a0 v2).Cents), vi ((ix a0 v2).Hours), eS 1 vt ((ix a0 v2).Needs), eS 1 (eS 1 vt) ((ix a0 v2).OneOf), eS 2 ePartCount ((ix a0 v2).Parts)]) rfl c1 rfl) ?_
  refine bK h fun y3 hy3 h => ?_
  refine jy (vb y3) 16 11 [15] rfl (restore_list_order_f2_2_ok n (ix a0 v2) a1 y3 hy3) [0, 1, 2, 3] rfl (.cons rfl (.cons rfl (.cons rfl (.same (row_ren vt_frz _ _ _) .nil)))) (.cons rfl (.cons rfl (.cons rfl (.same (row_ren vt_frz _ _ _) .nil)))) rfl ?_
  refine jf (.d3 (.k4 (.k (.i 16 (vb y3) .n)))) ?_
  refine tc h (fun c2 h => ?_) (fun c2 h => ?_)
  ·refine sk (.i 4 (vi v2) .n) ?_
   refine q3 ?_
   have h := si h
   subst h
   exact DoneS.ret Sees.refl rfl rfl
  refine q2 ?_
  refine q6 ?_
  refine cK h fun c3 h => ?_
  refine jo 18 (.bin .add false 8 (ki 1)) (r_addn (i := v2) (j := 1) rfl rfl c3) ?_
  refine jk 1 (.d (.k3 (.i 8 (vi ((v2 + 1 : Nat) : Int)) .n))) ?_
  exact Vs.intro sy ⟨(v2 + 1), rfl, h⟩
 refine q5 ?_
 exact Vs.intro sy ⟨(), rfl, h⟩
theorem restore_list_order_ok (n : Nat) (a0 : List Task) (r : (List Str)) (h : restore_list_order n a0 = some r) : FnL Tryz.prog 108 [eS 6 eTask a0, .fn (.func 109) [] []] [] (eS 1 vt r) [] := by
 dsimp only [restore_list_order] at h
 refine fo [4] Tryz.call108 Tryz.func108 rfl ?_
 refine sko (.k (.i 3 (.ptr 0 0 0) .n)) [some (.row 1 [.fn (.func 109) [] []])] ?_
 refine sko (.k2 (.i 5 (.ptr 1 0 0) .n)) [some (.row 1 [.fn (.func 109) [] []]), some (.row 1 [.emp])] ?_
 refine sko (.k (.d (.k (.i 6 (.ptr 2 0 0) .n)))) [some (.row 1 [.fn (.func 109) [] []]), some (.row 1 [.emp]), some (.row 1 [.fn (.func 160) [] [.ptr 0 0 0, .ptr 1 0 0]])] ?_
 refine q4 ?_
 refine TriE.sees (S' := ⟨[(0, eS 6 eTask a0), (5, .ptr 1 0 0), (6, .ptr 2 0 0)], [some (.row 1 [.fn (.func 109) [] []]), some (.row 1 [.own 3 0 ([] : List Str).length]), some (.row 1 [.fn (.func 160) [] [.ptr 0 0 0, .ptr 1 0 0]]), some (.row 1 (List.map vt ([] : List Str)))]⟩) (Sees.trans (Sees.co (fr' := [(0, eS 6 eTask a0), (5, .ptr 1 0 0), (6, .ptr 2 0 0)]) (ob' := [some (.row 1 [.fn (.func 109) [] []]), some (.row 1 [.own 3 0 0]), some (.row 1 [.fn (.func 160) [] [.ptr 0 0 0, .ptr 1 0 0]])]) (.cons .same (.cons .same (.cons .same .nil))) (.same (.cell (.cons .own .nil) rfl (.same .nil))) 1) sy) ?_
 refine TriE.loopN h (fun (v2 : (List Str)) => St.mk [(0, eS 6 eTask a0), (5, .ptr 1 0 0), (6, .ptr 2 0 0)] [some (.row 1 [.fn (.func 109) [] []]), some (.row 1 [.own 3 0 v2.length]), some (.row 1 [.fn (.func 160) [] [.ptr 0 0 0, .ptr 1 0 0]]), some (.row 1 (List.map vt v2))]) rfl ?_
 clear h
 rintro back v2 h
 dsimp only [restore_list_order_L1] at h
 refine q4 ?_
 refine sj ?_
 refine rk 2 (.k3 (.i 9 (eS 6 eTask a0) (.i 10 (.fn (.func 162) [] [.ptr 2 0 0]) .n))) ?_
 refine bK h fun y3 hy3 h => ?_
 refine jco (vi y3) 11 [9, 10] (slices_IndexFunc_Task_3_ok n a0 v2 y3 hy3) [2, 0, 1, 3] rfl (.cons rfl (.cons rfl (.cons rfl (.same (row_ren vt_frz _ _ _) .nil)))) (.cons rfl (.cons rfl (.cons rfl (.same (row_ren vt_frz _ _ _) .nil)))) rfl ?_
 refine jk 1 (.d (.k3 (.i 7 (vi y3) .n))) ?_
 refine q1 ?_
 refine sk (.k4 (.i 13 (vb (decide (y3 < (0 : Int)))) .n)) ?_
 refine tc h (fun c1 h => ?_) (fun c1 h => ?_)
 ·refine sk (.i 4 (.own 3 0 v2.length) .n) ?_
  refine q3 ?_
  have h := si h
  subst h
  exact DoneS.ret (S' := ⟨[(4, eS 1 vt v2)], []⟩) (Sees.trans (Sees.freezeO 3 (fr' := [(4, eS 1 vt v2)]) (ob' := [some (.row 1 [.fn (.func 109) [] []]), some (.row 1 [eS 1 vt v2]), some (.row 1 [.fn (.func 160) [] [.ptr 0 0 0, .ptr 1 0 0]]), none]) rfl (frz_row vt_frzE _) (.cons (frz_full rfl) .nil) (.cons .same (.cons (objFrz_cell (.cons (frz_full rfl) .nil) rfl) (.cons .same (.cons .same .nil))))) (sc [] (by decide) (by kernel_rfl) ObRen.nil rfl rfl)) rfl rfl
 refine q2 ?_
 refine ts (.k4 .n) ?_
 refine TriE.draw (by kernel_rfl) ?_
 refine dk 3 (.i 17 (vi y3) (.i 16 (eS 6 eTask a0) (.i 15 (.own 3 0 v2.length) .a))) ?_
 refine cK h fun c2 h => ?_
 refine dp 18 (.iaddr 6 16 17) (ok_iaddr_m (j := y3.toNat) rfl rfl (inB_to c2) (inB_lt c2)) ?_
 refine dk 1 (.i 19 (.fptr 6 (List.map eTask a0) y3.toNat 0) .a) ?_
 refine cK h fun c3 h => ?_
 refine dp 20 (.load false 1 19) (ok_load_fm (v := vt ((ix a0 y3.toNat).Name)) rfl c3 rfl) ?_
 refine dko 1 (.i 21 (.own 10 0 1) .a) [some (.row 1 [.fn (.func 109) [] []]), some (.row 1 [.own 3 0 v2.length]), some (.row 1 [.fn (.func 160) [] [.ptr 0 0 0, .ptr 1 0 0]]), some (.row 1 (List.map vt v2)), none, none, none, none, none, none, some (.row 1 [vt ((ix a0 y3.toNat).Name)])] ?_
 refine cK h fun c4 h => ?_
 refine dx 22 (.app 1 16 15 21) _ (ok_app_own (l := v2) (l2 := ([(ix a0 y3.toNat).Name] : List Str)) (e := vt) (u := .own 10 0 1) rfl rfl rfl rfl rfl c4) rfl rfl ?_
 refine dko 1 .a [some (.row 1 [.fn (.func 109) [] []]), some (.row 1 [.own 11 0 ((v2 ++ ([(ix a0 y3.toNat).Name] : List Str)).length)]), some (.row 1 [.fn (.func 160) [] [.ptr 0 0 0, .ptr 1 0 0]]), none, none, none, none, none, none, none, some (.row 1 [vt ((ix a0 y3.toNat).Name)]), some (.row 1 (List.map vt (v2 ++ ([(ix a0 y3.toNat).Name] : List Str)))), none] ?_
 refine dfi (ob' := [some (.row 1 [.fn (.func 109) [] []]), some (.row 1 [.own 3 0 ((v2 ++ ([(ix a0 y3.toNat).Name] : List Str)).length)]), some (.row 1 [.fn (.func 160) [] [.ptr 0 0 0, .ptr 1 0 0]]), some (.row 1 (List.map vt (v2 ++ ([(ix a0 y3.toNat).Name] : List Str))))]) (.d4 (.d4 (.k3 .n))) [0, 1, 2, 11] (.cons rfl (.cons rfl (.cons rfl (obRen_row vt_frz rfl .nil)))) ?_
 exact Vs.intro Sees.refl ⟨(v2 ++ ([(ix a0 y3.toNat).Name] : List Str)), rfl, h⟩
theorem restore_CheckTasks_ok (n : Nat) (a0 : List Task) (r : Int) (h : restore_CheckTasks n a0 = some r) : FnL Tryz.prog 56 [eS 6 eTask a0] [] (vi r) [] := by
 dsimp only [restore_CheckTasks] at h
 refine fo [2] Tryz.call56 Tryz.func56 rfl ?_
 refine sk .a ?_
 refine q1 ?_
 refine sj ?_
 refine rk 1 (.k (.i 5 (eS 6 eTask a0) .n)) ?_
 refine jo 6 (.len 0 5) (ok_len_m rfl) ?_
 refine jo 7 (.bin .gtr false 6 (ki 60)) (n_gtr (i := a0.length) (j := 60) rfl rfl) ?_
 refine jf (.d2 (.k (.i 7 (vb (decide (60 < a0.length))) .n))) ?_
 refine tc h (fun c1 h => ?_) (fun c1 h => ?_)
 ·refine sk (.i 2 (vi 8) .n) ?_
  refine q3 ?_
  have h := si h
  subst h
  exact DoneS.ret Sees.refl rfl rfl
 refine q2 ?_
 refine TriE.seqK h (fun (_ : Unit) => St.mk [(0, eS 6 eTask a0)] []) ?_ ?_
 ·rintro ⟨⟩ h
  refine q1 ?_
  refine sj ?_
  refine rk 1 (.k (.i 20 (eS 6 eTask a0) .n)) ?_
  refine bK h fun y4 hy4 h => ?_
  refine jc 21 [20, (.c (.fn (.func 109) [] []))] (restore_list_order_ok n a0 y4 hy4) ?_
  refine jo 22 (.len 0 21) (ok_len_m rfl) ?_
  refine rk 1 (.k (.i 23 (eS 6 eTask a0) .n)) ?_
  refine jo 24 (.len 0 23) (ok_len_m rfl) ?_
  refine jo 25 (.bin .lss false 22 24) (n_lss (i := y4.length) (j := a0.length) rfl rfl) ?_
  refine jf (.k .n) ?_
  refine tc h (fun c5 h => ?_) (fun c5 h => ?_)
  ·refine sk (.i 2 (vi 21) .n) ?_
   refine q3 ?_
   have h := si h
   subst h
   exact DoneS.ret Sees.refl rfl rfl
  refine q2 ?_
  refine sk (.i 2 (vi 0) .n) ?_
  refine q3 ?_
  have h := si h
  subst h
  exact DoneS.ret Sees.refl rfl rfl
 intro k1 h
 refine sj ?_
 refine rk 1 (.k (.i 8 (eS 6 eTask a0) .n)) ?_
 refine jo 9 (.len 0 8) (ok_len_m rfl) ?_
 refine jk 1 (.d (.k (.i 9 (vi (a0.length : Int)) (.i 10 (vi 0) .n)))) ?_
 refine q4 ?_
 refine ts (.k2 (.i 10 (vi 0) .n)) ?_
 refine TriE.loopN h (fun (v2 : Nat) => St.mk [(0, eS 6 eTask a0), (9, vi (a0.length : Int)), (10, vi v2)] []) rfl ?_
 clear h
 rintro back v2 h
 dsimp only [restore_CheckTasks_L1] at h
 refine sj ?_
 refine jo 11 (.bin .lss false 10 9) (n_lss (i := v2) (j := a0.length) rfl rfl) ?_
 refine jf (.d (.k3 (.i 11 (vb (decide (v2 < a0.length))) .n))) ?_
 refine q1 ?_
 refine tc h (fun c2 h => ?_) (fun c2 h => ?_)
 ·refine q2 ?_
  refine q7 ?_
  refine sk (.k3 (.i 3 (vi v2) .n)) ?_
  refine sj ?_
  refine rk 2 (.k3 (.i 13 (eS 6 eTask a0) (.i 14 (vi v2) .n))) ?_
  refine bK h fun y3 hy3 h => ?_
  refine jc 15 [13, 14] (restore_list_checkTask_ok n a0 (v2 : Int) y3 hy3) ?_
  refine jk 1 (.d (.k3 (.i 4 (vi y3) .n))) ?_
  refine sk (.k4 (.i 17 (vb (y3 != (0 : Int))) .n)) ?_
  refine tc h (fun c3 h => ?_) (fun c3 h => ?_)
  ·refine sk (.i 2 (vi y3) .n) ?_
   refine q3 ?_
   have h := si h
   subst h
   exact DoneS.ret Sees.refl rfl rfl
  refine q2 ?_
  refine q6 ?_
  refine cK h fun c4 h => ?_
  refine jo 19 (.bin .add false 10 (ki 1)) (r_addn (i := v2) (j := 1) rfl rfl c4) ?_
  refine jk 1 (.d (.k2 (.i 10 (vi ((v2 + 1 : Nat) : Int)) .n))) ?_
  exact Vs.intro sy ⟨(v2 + 1), rfl, h⟩
 refine q5 ?_
 exact Vs.intro sy ⟨(), rfl, h⟩
theorem strconv_Itoa_ok (n : Nat) (a0 : Int) (r : Str) (h : strconv_Itoa n a0 = some r) : FnL Tryz.prog 38 [vi a0] [] (vt r) [] := by
 refine cK h fun c h => ?_
 cases h
 exact itoa_call c
theorem strings_Join_ok (n : Nat) (a0 : List Str) (a1 : Str) (r : Str) (h : strings_Join n a0 a1 = some r) : FnL Tryz.prog 37 [.own 0 0 a0.length, vt a1] [some (.row 1 (List.map vt a0))] (vt r) [some (.row 1 (List.map vt a0))] := by
 refine cK h fun c1 h => ?_
 refine cK h fun c2 h => ?_
 cases h
 exact join_callO c1 c2
theorem strings_Builder_WriteString_ok (n : Nat) (a0 : Str) (a1 : Str) (r : Str) (h : strings_Builder_WriteString n a0 a1 = some r) : FnL Tryz.prog 58 [.itp 0, vt a1] [some (.bld 116 (.own 1 0 a0.length)), some (.bld 5 (vt a0))] (.tup [vi (a1.length : Int), .p .nilIface]) [some (.bld 116 (.own 2 0 r.length)), none, some (.bld 5 (vt r))] := by
 refine cK h fun c1 h => ?_
 refine cK h fun c2 h => ?_
 cases h
 exact wstr_call c1 c2
theorem restore_Print_f1_ok (n : Nat) (a0 : List Str) (a1 : Str) (r : Str) (h : restore_Print_f1 n a0 a1 = some r) : FnL Tryz.prog 57 [.own 0 0 a0.length, .itp 1] [some (.row 1 (List.map vt a0)), some (.bld 116 (.own 2 0 a1.length)), some (.bld 5 (vt a1))] (.tup []) [some (.row 1 (List.map vt a0)), some (.bld 116 (.own 3 0 r.length)), none, some (.bld 5 (vt r))] := by
 dsimp only [restore_Print_f1] at h
 refine fob [] Tryz.call57 Tryz.func57 rfl (.cons rfl (.cons rfl (.cons rfl .nil))) ?_
 refine q6 ?_
 refine rk 1 (.d (.k (.i 3 (.own 0 0 a0.length) .n))) ?_
 refine bK h fun y1 hy1 h => ?_
 refine jco (vt y1) 4 [3, (.c (.p (.string ⟨#[32]⟩)))] (strings_Join_ok n a0 ([32] : Str) y1 hy1) [0] rfl (.same (row_ren vt_frz _ _ _) .nil) (.same (row_ren vt_frz _ _ _) .nil) rfl ?_
 refine cK h fun c1 h => ?_
 refine jo 5 (.bin .add false 4 (.c (.p (.string ⟨#[10]⟩)))) (ok_sadd_t rfl rfl c1) ?_
 refine bK h fun y2 hy2 h => ?_
 refine jco (.tup [vi (((y1 ++ ([10] : Str)).length : Nat) : Int), .p .nilIface]) 6 [1, 5] (strings_Builder_WriteString_ok n a1 (y1 ++ ([10] : Str)) y2 hy2) [1, 2] rfl (.cons rfl (.cons rfl .nil)) (.cons rfl (.cons rfl (.cons rfl .nil))) rfl ?_
 refine jf .n ?_
 have h := si h
 subst h
 exact DoneS.normal Sees.refl rfl rfl
theorem strings_Join_2_ok (n : Nat) (a0 : List Str) (a1 : Str) (r : Str) (h : strings_Join_2 n a0 a1 = some r) : FnL Tryz.prog 37 [eS 1 vt a0, vt a1] [] (vt r) [] := by
 refine cK h fun c1 h => ?_
 refine cK h fun c2 h => ?_
 cases h
 exact join_call c1 c2
theorem restore_Print_f1_2_ok (n : Nat) (a0 : List Str) (a1 : Str) (r : Str) (h : restore_Print_f1_2 n a0 a1 = some r) : FnL Tryz.prog 57 [eS 1 vt a0, .itp 0] [some (.bld 116 (.own 1 0 a1.length)), some (.bld 5 (vt a1))] (.tup []) [some (.bld 116 (.own 2 0 r.length)), none, some (.bld 5 (vt r))] := by
 dsimp only [restore_Print_f1_2] at h
 refine fob [] Tryz.call57 Tryz.func57 rfl (.cons rfl (.cons rfl .nil)) ?_
 refine q6 ?_
 refine rk 1 (.d (.k (.i 3 (eS 1 vt a0) .n))) ?_
 refine bK h fun y1 hy1 h => ?_
 refine jc 4 [3, (.c (.p (.string ⟨#[32]⟩)))] (strings_Join_2_ok n a0 ([32] : Str) y1 hy1) ?_
 refine cK h fun c1 h => ?_
 refine jo 5 (.bin .add false 4 (.c (.p (.string ⟨#[10]⟩)))) (ok_sadd_t rfl rfl c1) ?_
 refine bK h fun y2 hy2 h => ?_
 refine jco (.tup [vi (((y1 ++ ([10] : Str)).length : Nat) : Int), .p .nilIface]) 6 [1, 5] (strings_Builder_WriteString_ok n a1 (y1 ++ ([10] : Str)) y2 hy2) [0, 1] rfl (.cons rfl (.cons rfl .nil)) (.cons rfl (.cons rfl (.cons rfl .nil))) rfl ?_
 refine jf .n ?_
 have h := si h
 subst h
 exact DoneS.normal Sees.refl rfl rfl
theorem strings_Builder_String_ok (n : Nat) (a0 : Str) (r : Str) (h : strings_Builder_String n a0 = some r) : FnL Tryz.prog 60 [.itp 0] [some (.bld 116 (.own 1 0 a0.length)), some (.bld 5 (vt a0))] (vt r) [none, none] := by
 cases h
 exact bstr_call
set_option maxHeartbeats 1000000 in
theorem restore_Print_ok (n : Nat) (a0 : List Task) (r : Int × Str) (h : restore_Print n a0 = some r) : FnL Tryz.prog 22 [eS 6 eTask a0] [] (.tup [vt r.2, vi r.1]) [] := by
 dsimp only [restore_Print] at h
 refine fo [2, 3] Tryz.call22 Tryz.func22 rfl ?_
 refine sk .a ?_
 refine q1 ?_
 refine sj ?_
 refine rk 1 (.k (.i 13 (eS 6 eTask a0) .n)) ?_
 refine bK h fun y1 hy1 h => ?_
 refine jc 14 [13] (restore_CheckTasks_ok n a0 y1 hy1) ?_
 refine jk 1 (.d (.k (.i 4 (vi y1) .n))) ?_
 refine sk (.k2 (.i 16 (vb (y1 != (0 : Int))) .n)) ?_
 refine tc h (fun c1 h => ?_) (fun c1 h => ?_)
 ·refine sk (.i 2 (vt ([] : Str)) (.i 3 (vi y1) .n)) ?_
  refine q3 ?_
  have h := si h
  subst h
  exact DoneS.ret Sees.refl rfl rfl
 refine q2 ?_
 refine sj ?_
 refine RegJ.bldA 5 (d := some 5) (T := 116) (by kernel_rfl) ?_
 refine jp [(0, eS 6 eTask a0), (5, .itp 0)] ?_
 refine sko (.k2 (.i 6 (.fn (.func 57) [] [.itp 0]) .n)) [some (.bld 116 (.own 1 0 (([] : Str).length))), some (.bld 5 (vt ([] : Str)))] ?_
 refine TriE.seqK h (fun (v44 : Str) => St.mk [(5, .itp 0)] [some (.bld 116 (.own 1 0 v44.length)), some (.bld 5 (vt v44))]) ?_ ?_
 ·rintro v44 h
  refine sj ?_
  refine bK h fun y45 hy45 h => ?_
  refine jco (vt y45) 78 [5] (strings_Builder_String_ok n v44 y45 hy45) [0, 1] rfl (.cons rfl (.cons rfl .nil)) (.cons rfl (.cons rfl .nil)) rfl ?_
  refine jk 2 (.i 2 (vt y45) (.i 3 (vi 0) .n)) ?_
  refine q3 ?_
  have h := si h
  subst h
  exact DoneS.ret (S' := ⟨[(2, vt y45), (3, vi 0)], []⟩) (sc [] (by decide) (by kernel_rfl) ObRen.nil rfl rfl) rfl rfl
 intro k4 h
 refine sj ?_
 refine rk 1 (.d (.k2 (.i 19 (eS 6 eTask a0) .n))) ?_
 refine jo 20 (.len 0 19) (ok_len_m rfl) ?_
 refine jk 1 (.d (.k3 (.i 20 (vi (a0.length : Int)) (.i 21 (vi 0) .n)))) ?_
 refine q4 ?_
 refine TriE.sees (S' := ⟨[(5, .itp 0), (6, .fn (.func 57) [] [.itp 0]), (19, eS 6 eTask a0), (20, vi (a0.length : Int)), (21, vi 0)], [some (.bld 116 (.own 1 0 ([] : Str).length)), some (.bld 5 (vt ([] : Str)))]⟩) sy ?_
 refine TriE.loopN h (fun (t : Nat × Str) => match t with | (v22, v23) => St.mk [(5, .itp 0), (6, .fn (.func 57) [] [.itp 0]), (19, eS 6 eTask a0), (20, vi (a0.length : Int)), (21, vi v22)] [some (.bld 116 (.own 1 0 v23.length)), some (.bld 5 (vt v23))]) rfl ?_
 clear h
 rintro back ⟨v22, v23⟩ h
 dsimp only [restore_Print_L3] at h
 refine sj ?_
 refine jo 22 (.bin .lss false 21 20) (n_lss (i := v22) (j := a0.length) rfl rfl) ?_
 refine jf (.d (.k4 (.k (.i 22 (vb (decide (v22 < a0.length))) .n)))) ?_
 refine q1 ?_
 refine tc h (fun c2 h => ?_) (fun c2 h => ?_)
 ·refine q2 ?_
  refine TriE.seqK h (fun (v43 : Str) => St.mk [(5, .itp 0), (6, .fn (.func 57) [] [.itp 0]), (19, eS 6 eTask a0), (20, vi (a0.length : Int)), (21, vi v22)] [some (.bld 116 (.own 1 0 v43.length)), some (.bld 5 (vt v43))]) ?_ ?_
  ·rintro v43 h
   refine q6 ?_
   refine cK h fun c10 h => ?_
   refine jo 77 (.bin .add false 21 (ki 1)) (r_addn (i := v22) (j := 1) rfl rfl c10) ?_
   refine jk 1 (.d (.k4 (.i 21 (vi ((v22 + 1 : Nat) : Int)) .n))) ?_
   exact Vs.intro sy ⟨(v22 + 1, v43), rfl, h⟩
  intro k3 h
  refine q4 ?_
  refine sj ?_
  refine jo 23 (.iaddr 6 19 21) (ok_iaddr_m (j := v22) rfl rfl rfl c2) ?_
  refine jo 24 (.load true 6 23) (ok_load_fm (v := .agg [vt ((ix a0 v22).Name), vi ((ix a0 v22).Cents), vi ((ix a0 v22).Hours), eS 1 vt ((ix a0 v22).Needs), eS 1 (eS 1 vt) ((ix a0 v22).OneOf), eS 2 ePartCount ((ix a0 v22).Parts)]) rfl c2 rfl) ?_
  refine jko 2 (.d2 (.k4 (.k (.i 8 (.ptr 2 0 0) .n)))) [some (.bld 116 (.own 1 0 v23.length)), some (.bld 5 (vt v23)), some (.row 6 [.agg [vt ((ix a0 v22).Name), vi ((ix a0 v22).Cents), vi ((ix a0 v22).Hours), eS 1 vt ((ix a0 v22).Needs), eS 1 (eS 1 vt) ((ix a0 v22).OneOf), eS 2 ePartCount ((ix a0 v22).Parts)]])] ?_
  refine q1 ?_
  refine ts .a ?_
  refine TriE.draw (by kernel_rfl) ?_
  refine dk 5 (.i 29 (vi ((ix a0 v22).Cents)) (.i 28 (.ptr 2 0 1) (.i 27 (vt ((ix a0 v22).Name)) (.i 26 (.ptr 2 0 0) (.i 25 (.fn (.func 57) [] [.itp 0]) .a))))) ?_
  refine bK h fun y24 hy24 h => ?_
  refine dc (vt y24) 0 30 [29] (strconv_Itoa_ok n ((ix a0 v22).Cents) y24 hy24) [] rfl ObsRen.nil ObsRen.nil rfl (.inr ⟨rfl, rfl⟩) ?_
  refine dk 2 (.i 32 (vi ((ix a0 v22).Hours)) (.i 31 (.ptr 2 0 2) .a)) ?_
  refine bK h fun y25 hy25 h => ?_
  refine dc (vt y25) 0 33 [32] (strconv_Itoa_ok n ((ix a0 v22).Hours) y25 hy25) [] rfl ObsRen.nil ObsRen.nil rfl (.inr ⟨rfl, rfl⟩) ?_
  refine dko 1 (.i 34 (.own 12 0 4) .a) [some (.bld 116 (.own 1 0 v23.length)), some (.bld 5 (vt v23)), some (.row 6 [.agg [vt ((ix a0 v22).Name), vi ((ix a0 v22).Cents), vi ((ix a0 v22).Hours), eS 1 vt ((ix a0 v22).Needs), eS 1 (eS 1 vt) ((ix a0 v22).OneOf), eS 2 ePartCount ((ix a0 v22).Parts)]]), none, none, none, none, none, none, none, none, none, some (.row 1 [vt ([116, 97, 115, 107] : Str), vt ((ix a0 v22).Name), vt y24, vt y25])] ?_
  refine bK h fun y26 hy26 h => ?_
  refine RegD.op (OpD.dyn (y' := .tup []) (obx := [some (.row 1 [vt ([116, 97, 115, 107] : Str), vt ((ix a0 v22).Name), vt y24, vt y25]), some (.bld 116 (.own 1 0 v23.length)), some (.bld 5 (vt v23))]) (oby := [some (.row 1 (List.map vt ([([116, 97, 115, 107] : Str), (ix a0 v22).Name, y24, y25] : List Str))), some (.bld 116 (.own 13 0 y26.length)), none, some (.bld 5 (vt y26))]) (ob2 := [some (.bld 116 (.own 13 0 y26.length)), none, some (.row 6 [.agg [vt ((ix a0 v22).Name), vi ((ix a0 v22).Cents), vi ((ix a0 v22).Hours), eS 1 vt ((ix a0 v22).Needs), eS 1 (eS 1 vt) ((ix a0 v22).OneOf), eS 2 ePartCount ((ix a0 v22).Parts)]]), none, none, none, none, none, none, none, none, none, some (.row 1 (List.map vt ([([116, 97, 115, 107] : Str), (ix a0 v22).Name, y24, y25] : List Str))), some (.bld 5 (vt y26)), none]) (tch := [12, 0, 1, 13]) 1 _ _ _ (cy (I0 35 (.dyn 25 [34]))) rfl (restore_Print_f1_ok n ([([116, 97, 115, 107] : Str), (ix a0 v22).Name, y24, y25] : List Str) v23 y26 hy26) [12, 0, 1] (by kernel_rfl) (.cons rfl (.cons rfl .nil)) (by kernel_rfl) (by kernel_rfl) (.same (row_ren vt_frz _ _ _) (.cons rfl (.cons rfl .nil))) (by kernel_rfl) (.same (row_ren vt_frz _ _ _) (.cons rfl (.cons rfl (.cons rfl .nil)))) (by kernel_rfl) rfl (.inl rfl)) ?_
  refine dfi (ob' := [some (.bld 116 (.own 2 0 y26.length)), some (.row 6 [.agg [vt ((ix a0 v22).Name), vi ((ix a0 v22).Cents), vi ((ix a0 v22).Hours), eS 1 vt ((ix a0 v22).Needs), eS 1 (eS 1 vt) ((ix a0 v22).OneOf), eS 2 ePartCount ((ix a0 v22).Parts)]]), some (.bld 5 (vt y26))]) (.d4 (.d4 (.d3 (.k4 (.k (.i 8 (.ptr 1 0 0) .n)))))) [0, 2, 13] (.cons rfl (.cons rfl (.cons rfl .nil))) ?_
  refine TriE.seqK h (fun (v29 : Str) => St.mk [(5, .itp 0), (6, .fn (.func 57) [] [.itp 0]), (19, eS 6 eTask a0), (20, vi (a0.length : Int)), (21, vi v22), (8, .ptr 1 0 0)] [some (.bld 116 (.own 2 0 v29.length)), some (.row 6 [.agg [vt ((ix a0 v22).Name), vi ((ix a0 v22).Cents), vi ((ix a0 v22).Hours), eS 1 vt ((ix a0 v22).Needs), eS 1 (eS 1 vt) ((ix a0 v22).OneOf), eS 2 ePartCount ((ix a0 v22).Parts)]]), some (.bld 5 (vt v29))]) ?_ ?_
  ·rintro v29 h
   refine TriE.seqK h (fun (v36 : Str) => St.mk [(5, .itp 0), (6, .fn (.func 57) [] [.itp 0]), (19, eS 6 eTask a0), (20, vi (a0.length : Int)), (21, vi v22), (8, .ptr 1 0 0)] [some (.bld 116 (.own 2 0 v36.length)), some (.row 6 [.agg [vt ((ix a0 v22).Name), vi ((ix a0 v22).Cents), vi ((ix a0 v22).Hours), eS 1 vt ((ix a0 v22).Needs), eS 1 (eS 1 vt) ((ix a0 v22).OneOf), eS 2 ePartCount ((ix a0 v22).Parts)]]), some (.bld 5 (vt v36))]) ?_ ?_
   ·rintro v36 h
    refine sj ?_
    refine rk 2 (.k4 (.k (.i 62 (eS 2 ePartCount ((ix a0 v22).Parts)) .n))) ?_
    refine jo 63 (.len 0 62) (ok_len_m rfl) ?_
    refine jk 1 (.d (.k4 (.k2 (.i 63 (vi ((((ix a0 v22).Parts).length : Nat) : Int)) (.i 64 (vi 0) .n))))) ?_
    refine q4 ?_
    refine TriE.sees (S' := ⟨[(5, .itp 0), (6, .fn (.func 57) [] [.itp 0]), (19, eS 6 eTask a0), (20, vi (a0.length : Int)), (21, vi v22), (62, eS 2 ePartCount ((ix a0 v22).Parts)), (63, vi ((((ix a0 v22).Parts).length : Nat) : Int)), (64, vi 0)], [some (.bld 116 (.own 1 0 v36.length)), some (.bld 5 (vt v36))]⟩) (sc [0, 2] (by decide) (by kernel_rfl) (.cons rfl (.cons rfl .nil)) rfl rfl) ?_
    refine TriE.loopN h (fun (t : Nat × Str) => match t with | (v39, v40) => St.mk [(5, .itp 0), (6, .fn (.func 57) [] [.itp 0]), (19, eS 6 eTask a0), (20, vi (a0.length : Int)), (21, vi v22), (62, eS 2 ePartCount ((ix a0 v22).Parts)), (63, vi ((((ix a0 v22).Parts).length : Nat) : Int)), (64, vi v39)] [some (.bld 116 (.own 1 0 v40.length)), some (.bld 5 (vt v40))]) rfl ?_
    clear h
    rintro back ⟨v39, v40⟩ h
    dsimp only [restore_Print_L2] at h
    refine sj ?_
    refine jo 65 (.bin .lss false 64 63) (n_lss (i := v39) (j := ((ix a0 v22).Parts).length) rfl rfl) ?_
    refine jf (.d (.k4 (.k4 (.i 65 (vb (decide (v39 < (((ix a0 v22).Parts).length)))) .n)))) ?_
    refine q1 ?_
    refine tc h (fun c7 h => ?_) (fun c7 h => ?_)
    ·refine q2 ?_
     refine q7 ?_
     refine sj ?_
     refine cK h fun c8 h => ?_
     refine jo 66 (.iaddr 2 62 64) (ok_iaddr_m (j := v39) rfl rfl rfl c8) ?_
     refine jo 67 (.load true 2 66) (ok_load_fm (v := .agg [vt ((ix ((ix a0 v22).Parts) v39).Part), vi ((ix ((ix a0 v22).Parts) v39).Count)]) rfl c8 rfl) ?_
     refine jko 2 (.d2 (.k4 (.k4 (.i 12 (.ptr 2 0 0) .n)))) [some (.bld 116 (.own 1 0 v40.length)), some (.bld 5 (vt v40)), some (.row 2 [.agg [vt ((ix ((ix a0 v22).Parts) v39).Part), vi ((ix ((ix a0 v22).Parts) v39).Count)]])] ?_
     refine ts .a ?_
     refine TriE.draw (by kernel_rfl) ?_
     refine dk 5 (.i 72 (vi ((ix ((ix a0 v22).Parts) v39).Count)) (.i 71 (.ptr 2 0 1) (.i 70 (vt ((ix ((ix a0 v22).Parts) v39).Part)) (.i 69 (.ptr 2 0 0) (.i 68 (.fn (.func 57) [] [.itp 0]) .a))))) ?_
     refine bK h fun y41 hy41 h => ?_
     refine dc (vt y41) 0 73 [72] (strconv_Itoa_ok n ((ix ((ix a0 v22).Parts) v39).Count) y41 hy41) [] rfl ObsRen.nil ObsRen.nil rfl (.inr ⟨rfl, rfl⟩) ?_
     refine dko 1 (.i 74 (.own 9 0 3) .a) [some (.bld 116 (.own 1 0 v40.length)), some (.bld 5 (vt v40)), some (.row 2 [.agg [vt ((ix ((ix a0 v22).Parts) v39).Part), vi ((ix ((ix a0 v22).Parts) v39).Count)]]), none, none, none, none, none, none, some (.row 1 [vt ([112, 97, 114, 116] : Str), vt ((ix ((ix a0 v22).Parts) v39).Part), vt y41])] ?_
     refine bK h fun y42 hy42 h => ?_
     refine RegD.op (OpD.dyn (y' := .tup []) (obx := [some (.row 1 [vt ([112, 97, 114, 116] : Str), vt ((ix ((ix a0 v22).Parts) v39).Part), vt y41]), some (.bld 116 (.own 1 0 v40.length)), some (.bld 5 (vt v40))]) (oby := [some (.row 1 (List.map vt ([([112, 97, 114, 116] : Str), (ix ((ix a0 v22).Parts) v39).Part, y41] : List Str))), some (.bld 116 (.own 10 0 y42.length)), none, some (.bld 5 (vt y42))]) (ob2 := [some (.bld 116 (.own 10 0 y42.length)), none, some (.row 2 [.agg [vt ((ix ((ix a0 v22).Parts) v39).Part), vi ((ix ((ix a0 v22).Parts) v39).Count)]]), none, none, none, none, none, none, some (.row 1 (List.map vt ([([112, 97, 114, 116] : Str), (ix ((ix a0 v22).Parts) v39).Part, y41] : List Str))), some (.bld 5 (vt y42)), none]) (tch := [9, 0, 1, 10]) 1 _ _ _ (cy (I0 75 (.dyn 68 [74]))) rfl (restore_Print_f1_ok n ([([112, 97, 114, 116] : Str), (ix ((ix a0 v22).Parts) v39).Part, y41] : List Str) v40 y42 hy42) [9, 0, 1] (by kernel_rfl) (.cons rfl (.cons rfl .nil)) (by kernel_rfl) (by kernel_rfl) (.same (row_ren vt_frz _ _ _) (.cons rfl (.cons rfl .nil))) (by kernel_rfl) (.same (row_ren vt_frz _ _ _) (.cons rfl (.cons rfl (.cons rfl .nil)))) (by kernel_rfl) rfl (.inl rfl)) ?_
     refine dfi (ob' := [some (.bld 116 (.own 1 0 y42.length)), some (.bld 5 (vt y42))]) (.d4 (.d4 (.k4 (.k4 .n)))) [0, 10] (.cons rfl (.cons rfl .nil)) ?_
     refine q6 ?_
     refine cK h fun c9 h => ?_
     refine jo 76 (.bin .add false 64 (ki 1)) (r_addn (i := v39) (j := 1) rfl rfl c9) ?_
     refine jk 1 (.d (.k4 (.k3 (.i 64 (vi ((v39 + 1 : Nat) : Int)) .n)))) ?_
     exact Vs.intro sy ⟨(v39 + 1, y42), rfl, h⟩
    refine q5 ?_
    exact Vs.intro sy ⟨v40, rfl, h⟩
   intro k2 h
   refine sj ?_
   refine rk 2 (.k4 (.k2 (.i 48 (eS 1 (eS 1 vt) ((ix a0 v22).OneOf)) .n))) ?_
   refine jo 49 (.len 0 48) (ok_len_m rfl) ?_
   refine jk 1 (.d (.k4 (.k3 (.i 49 (vi ((((ix a0 v22).OneOf).length : Nat) : Int)) (.i 50 (vi 0) .n))))) ?_
   refine q4 ?_
   refine ts (.k4 (.k4 (.i 50 (vi 0) .n))) ?_
   refine TriE.loopN h (fun (t : Nat × Str) => match t with | (v32, v33) => St.mk [(5, .itp 0), (6, .fn (.func 57) [] [.itp 0]), (19, eS 6 eTask a0), (20, vi (a0.length : Int)), (21, vi v22), (8, .ptr 1 0 0), (48, eS 1 (eS 1 vt) ((ix a0 v22).OneOf)), (49, vi ((((ix a0 v22).OneOf).length : Nat) : Int)), (50, vi v32)] [some (.bld 116 (.own 2 0 v33.length)), some (.row 6 [.agg [vt ((ix a0 v22).Name), vi ((ix a0 v22).Cents), vi ((ix a0 v22).Hours), eS 1 vt ((ix a0 v22).Needs), eS 1 (eS 1 vt) ((ix a0 v22).OneOf), eS 2 ePartCount ((ix a0 v22).Parts)]]), some (.bld 5 (vt v33))]) rfl ?_
   clear h
   rintro back ⟨v32, v33⟩ h
   dsimp only [restore_Print_L1] at h
   refine sj ?_
   refine jo 51 (.bin .lss false 50 49) (n_lss (i := v32) (j := ((ix a0 v22).OneOf).length) rfl rfl) ?_
   refine jf (.d (.k4 (.k4 (.k (.i 51 (vb (decide (v32 < (((ix a0 v22).OneOf).length)))) .n))))) ?_
   refine q1 ?_
   refine tc h (fun c4 h => ?_) (fun c4 h => ?_)
   ·refine q2 ?_
    refine q7 ?_
    refine sj ?_
    refine cK h fun c5 h => ?_
    refine jo 52 (.iaddr 1 48 50) (ok_iaddr_m (j := v32) rfl rfl rfl c5) ?_
    refine jo 53 (.load false 1 52) (ok_load_fm (v := eS 1 vt (ix ((ix a0 v22).OneOf) v32)) rfl c5 rfl) ?_
    refine jk 1 (.d2 (.k4 (.k4 (.k (.i 10 (eS 1 vt (ix ((ix a0 v22).OneOf) v32)) .n))))) ?_
    refine q6 ?_
    refine rko 3 (.k4 (.k4 (.k (.i 54 (.fn (.func 57) [] [.itp 0]) (.i 55 (.own 3 0 1) (.i 56 (eS 1 vt (ix ((ix a0 v22).OneOf) v32)) .n)))))) [some (.bld 116 (.own 2 0 v33.length)), some (.row 6 [.agg [vt ((ix a0 v22).Name), vi ((ix a0 v22).Cents), vi ((ix a0 v22).Hours), eS 1 vt ((ix a0 v22).Needs), eS 1 (eS 1 vt) ((ix a0 v22).OneOf), eS 2 ePartCount ((ix a0 v22).Parts)]]), some (.bld 5 (vt v33)), some (.row 1 [vt ([111, 110, 101, 111, 102] : Str)])] ?_
    refine RegJ.sees (Sees.freeze 3 (fr' := [(5, .itp 0), (6, .fn (.func 57) [] [.itp 0]), (19, eS 6 eTask a0), (20, vi (a0.length : Int)), (21, vi v22), (8, .ptr 1 0 0), (48, eS 1 (eS 1 vt) ((ix a0 v22).OneOf)), (49, vi ((((ix a0 v22).OneOf).length : Nat) : Int)), (50, vi v32), (54, .fn (.func 57) [] [.itp 0]), (55, eS 1 vt ([([111, 110, 101, 111, 102] : Str)] : List Str)), (56, eS 1 vt (ix ((ix a0 v22).OneOf) v32))]) (ob' := [some (.bld 116 (.own 2 0 v33.length)), some (.row 6 [.agg [vt ((ix a0 v22).Name), vi ((ix a0 v22).Cents), vi ((ix a0 v22).Hours), eS 1 vt ((ix a0 v22).Needs), eS 1 (eS 1 vt) ((ix a0 v22).OneOf), eS 2 ePartCount ((ix a0 v22).Parts)]]), some (.bld 5 (vt v33)), none]) rfl (frzs_cons rfl frzs_nil) (.cons (.refl _) (.cons (.refl _) (.cons (.refl _) (.cons (.refl _) (.cons (.refl _) (.cons (.refl _) (.cons (.refl _) (.cons (.refl _) (.cons (.refl _) (.cons (.refl _) (.cons (.own rfl (Nat.le_of_ble_eq_true rfl)) (.cons (.refl _) .nil)))))))))))) rfl) ?_
    refine rko 1 (.k4 (.k4 (.k2 (.i 57 (.own 4 0 2) .n)))) [some (.bld 116 (.own 2 0 v33.length)), some (.row 6 [.agg [vt ((ix a0 v22).Name), vi ((ix a0 v22).Cents), vi ((ix a0 v22).Hours), eS 1 vt ((ix a0 v22).Needs), eS 1 (eS 1 vt) ((ix a0 v22).OneOf), eS 2 ePartCount ((ix a0 v22).Parts)]]), some (.bld 5 (vt v33)), none, some (.row 1 [eS 1 vt ([([111, 110, 101, 111, 102] : Str)] : List Str), eS 1 vt (ix ((ix a0 v22).OneOf) v32)])] ?_
    refine bK h fun y34 hy34 h => ?_
    refine jco (eS 1 vt y34) 58 [57] (slices_Concat_string_ok n ([([([111, 110, 101, 111, 102] : Str)] : List Str), (ix ((ix a0 v22).OneOf) v32)] : List (List Str)) y34 hy34) [4] rfl (.same (row_ren (eS_frz 1 vt) _ _ _) .nil) (.same (row_ren (eS_frz 1 vt) _ _ _) .nil) rfl ?_
    refine bK h fun y35 hy35 h => ?_
    refine jy (.tup []) 59 54 [58] rfl (restore_Print_f1_2_ok n y34 v33 y35 hy35) [0, 2] rfl (.cons rfl (.cons rfl .nil)) (.cons rfl (.cons rfl (.cons rfl .nil))) rfl ?_
    refine jf (.d2 (.k4 (.k4 (.k .n)))) ?_
    refine q6 ?_
    refine cK h fun c6 h => ?_
    refine jo 60 (.bin .add false 50 (ki 1)) (r_addn (i := v32) (j := 1) rfl rfl c6) ?_
    refine jk 1 (.d (.k4 (.k4 (.i 50 (vi ((v32 + 1 : Nat) : Int)) .n)))) ?_
    exact Vs.intro (sc [0, 1, 5] (by decide) (by kernel_rfl) (.cons rfl (.cons rfl (.cons rfl .nil))) rfl rfl) ⟨(v32 + 1, y35), rfl, h⟩
   refine q5 ?_
   exact Vs.intro sy ⟨v33, rfl, h⟩
  intro k1 h
  refine sj ?_
  refine rk 2 (.k4 (.k2 (.i 37 (eS 1 vt ((ix a0 v22).Needs)) .n))) ?_
  refine jo 38 (.len 0 37) (ok_len_m rfl) ?_
  refine jo 39 (.bin .gtr false 38 (ki 0)) (n_gtr (i := ((ix a0 v22).Needs).length) (j := 0) rfl rfl) ?_
  refine jf (.d2 (.k4 (.k2 (.i 39 (vb (decide (0 < (((ix a0 v22).Needs).length)))) .n)))) ?_
  refine tc h (fun c3 h => ?_) (fun c3 h => ?_)
  ·refine q6 ?_
   refine rko 4 (.k4 (.k2 (.i 40 (.fn (.func 57) [] [.itp 0]) (.i 41 (.own 3 0 1) (.i 43 (eS 1 vt ((ix a0 v22).Needs)) .n))))) [some (.bld 116 (.own 2 0 y26.length)), some (.row 6 [.agg [vt ((ix a0 v22).Name), vi ((ix a0 v22).Cents), vi ((ix a0 v22).Hours), eS 1 vt ((ix a0 v22).Needs), eS 1 (eS 1 vt) ((ix a0 v22).OneOf), eS 2 ePartCount ((ix a0 v22).Parts)]]), some (.bld 5 (vt y26)), some (.row 1 [vt ([110, 101, 101, 100, 115] : Str)])] ?_
   refine RegJ.sees (Sees.freeze 3 (fr' := [(5, .itp 0), (6, .fn (.func 57) [] [.itp 0]), (19, eS 6 eTask a0), (20, vi (a0.length : Int)), (21, vi v22), (8, .ptr 1 0 0), (40, .fn (.func 57) [] [.itp 0]), (41, eS 1 vt ([([110, 101, 101, 100, 115] : Str)] : List Str)), (43, eS 1 vt ((ix a0 v22).Needs))]) (ob' := [some (.bld 116 (.own 2 0 y26.length)), some (.row 6 [.agg [vt ((ix a0 v22).Name), vi ((ix a0 v22).Cents), vi ((ix a0 v22).Hours), eS 1 vt ((ix a0 v22).Needs), eS 1 (eS 1 vt) ((ix a0 v22).OneOf), eS 2 ePartCount ((ix a0 v22).Parts)]]), some (.bld 5 (vt y26)), none]) rfl (frzs_cons rfl frzs_nil) (.cons (.refl _) (.cons (.refl _) (.cons (.refl _) (.cons (.refl _) (.cons (.refl _) (.cons (.refl _) (.cons (.refl _) (.cons (.own rfl (Nat.le_of_ble_eq_true rfl)) (.cons (.refl _) .nil))))))))) rfl) ?_
   refine rko 1 (.k4 (.k3 (.i 44 (.own 4 0 2) .n))) [some (.bld 116 (.own 2 0 y26.length)), some (.row 6 [.agg [vt ((ix a0 v22).Name), vi ((ix a0 v22).Cents), vi ((ix a0 v22).Hours), eS 1 vt ((ix a0 v22).Needs), eS 1 (eS 1 vt) ((ix a0 v22).OneOf), eS 2 ePartCount ((ix a0 v22).Parts)]]), some (.bld 5 (vt y26)), none, some (.row 1 [eS 1 vt ([([110, 101, 101, 100, 115] : Str)] : List Str), eS 1 vt ((ix a0 v22).Needs)])] ?_
   refine bK h fun y27 hy27 h => ?_
   refine jco (eS 1 vt y27) 45 [44] (slices_Concat_string_ok n ([([([110, 101, 101, 100, 115] : Str)] : List Str), (ix a0 v22).Needs] : List (List Str)) y27 hy27) [4] rfl (.same (row_ren (eS_frz 1 vt) _ _ _) .nil) (.same (row_ren (eS_frz 1 vt) _ _ _) .nil) rfl ?_
   refine bK h fun y28 hy28 h => ?_
   refine jy (.tup []) 46 40 [45] rfl (restore_Print_f1_2_ok n y27 y26 y28 hy28) [0, 2] rfl (.cons rfl (.cons rfl .nil)) (.cons rfl (.cons rfl (.cons rfl .nil))) rfl ?_
   refine jf (.d2 (.k4 (.k2 .n))) ?_
   exact Vs.intro (sc [0, 1, 5] (by decide) (by kernel_rfl) (.cons rfl (.cons rfl (.cons rfl .nil))) rfl rfl) ⟨y28, rfl, h⟩
  refine q2 ?_
  exact Vs.intro sy ⟨y26, rfl, h⟩
 refine q5 ?_
 exact Vs.intro sy ⟨v23, rfl, h⟩
theorem agraffebase_isLetter_ok (n : Nat) (a0 : Int) (r : Unit) (h : agraffebase_isLetter n a0 = some r) : FnL Tryz.prog 44 [vk .u8 a0] [] (vb (((decide ((97 : Int) ≤ a0)) && (decide (a0 ≤ (122 : Int)))) || ((decide ((65 : Int) ≤ a0)) && (decide (a0 ≤ (90 : Int)))))) [] := by
 dsimp only [agraffebase_isLetter] at h
 refine fo [2] Tryz.call44 Tryz.func44 rfl ?_
 refine sk .a ?_
 refine sj ?_
 refine rk 3 (.k (.i 5 (vb (decide ((97 : Int) ≤ a0))) .n)) ?_
 refine gj (vk .u8 a0) 6 (.mov 0) 5 true rfl ?_
 refine gk (vb (decide (a0 ≤ (122 : Int)))) 7 (.bin .leq false 6 (.c (.p (.int .u8 122)))) 5 true rfl (fun hg => (.cons hg (.cons rfl .nil))) ?_
 refine pa 8 5 7 rfl rfl ?_
 refine rk 1 (.d3 (.k (.i 9 (vb ((decide ((97 : Int) ≤ a0)) && (decide (a0 ≤ (122 : Int))))) .n))) ?_
 refine gj (vk .u8 a0) 10 (.mov 0) 9 false rfl ?_
 refine gk (vb (decide ((65 : Int) ≤ a0))) 11 (.bin .geq false 10 (.c (.p (.int .u8 65)))) 9 false rfl (fun hg => (.cons hg (.cons rfl .nil))) ?_
 refine gk (vb (decide ((65 : Int) ≤ a0))) 12 (.mov 11) 9 false rfl (fun hg => (.cons hg .nil)) ?_
 refine gj (vk .u8 a0) 13 (.mov 0) 12 true rfl ?_
 refine gk (vb (decide (a0 ≤ (90 : Int)))) 14 (.bin .leq false 13 (.c (.p (.int .u8 90)))) 12 true rfl (fun hg => (.cons hg (.cons rfl .nil))) ?_
 refine RegJ.op (Op1.andg (g := !((decide ((97 : Int) ≤ a0)) && (decide (a0 ≤ (122 : Int))))) (cy (IG 15 (.pick 12 14 (.c (.p (.bool false)))) 9 false)) rfl rfl rfl (fun hg => by first | exact hokA2 hg | exact hokA3 hg | exact hokA1 | exact hokA0 | (rw [hg]; simp) | simp_all)) ?_
 refine po 16 9 15 rfl rfl ?_
 refine jk 1 (.i 2 (vb (((decide ((97 : Int) ≤ a0)) && (decide (a0 ≤ (122 : Int)))) || ((decide ((65 : Int) ≤ a0)) && (decide (a0 ≤ (90 : Int)))))) .n) ?_
 refine q3 ?_
 have h := si h
 subst h
 exact DoneS.ret Sees.refl rfl rfl
theorem agraffebase_isDigit_ok (n : Nat) (a0 : Int) (r : Unit) (h : agraffebase_isDigit n a0 = some r) : FnL Tryz.prog 45 [vk .u8 a0] [] (vb ((decide ((48 : Int) ≤ a0)) && (decide (a0 ≤ (57 : Int))))) [] := by
 dsimp only [agraffebase_isDigit] at h
 refine fo [2] Tryz.call45 Tryz.func45 rfl ?_
 refine sk .a ?_
 refine sj ?_
 refine rk 3 (.k (.i 5 (vb (decide ((48 : Int) ≤ a0))) .n)) ?_
 refine gj (vk .u8 a0) 6 (.mov 0) 5 true rfl ?_
 refine gk (vb (decide (a0 ≤ (57 : Int)))) 7 (.bin .leq false 6 (.c (.p (.int .u8 57)))) 5 true rfl (fun hg => (.cons hg (.cons rfl .nil))) ?_
 refine pa 8 5 7 rfl rfl ?_
 refine jk 1 (.i 2 (vb ((decide ((48 : Int) ≤ a0)) && (decide (a0 ≤ (57 : Int))))) .n) ?_
 refine q3 ?_
 have h := si h
 subst h
 exact DoneS.ret Sees.refl rfl rfl
set_option maxHeartbeats 1000000 in
theorem agraffebase_IsName_ok (n : Nat) (a0 : Str) (r : Bool) (h : agraffebase_IsName n a0 = some r) : FnL Tryz.prog 12 [vt a0] [] (vb r) [] := by
 dsimp only [agraffebase_IsName] at h
 refine fo [2] Tryz.call12 Tryz.func12 rfl ?_
 refine sk .a ?_
 refine q1 ?_
 refine sj ?_
 refine rk 1 (.k (.i 4 (vt a0) .n)) ?_
 refine jo 5 (.len 1 4) (ok_len_t rfl) ?_
 refine jo 6 (.bin .eql false 5 (ki 0)) (n_eql (i := a0.length) (j := 0) rfl rfl) ?_
 refine rk 1 (.d2 (.k (.i 7 (vb (decide (a0.length = 0))) .n))) ?_
 refine gj (vt a0) 8 (.mov 0) 7 false rfl ?_
 refine gv 9 (.len 1 8) 7 false rfl (fun hg => (ok_len_t rfl)) (fun hg => (.cons hg .nil)) ?_
 refine gv 10 (.bin .gtr false 9 (ki 12)) 7 false rfl (fun hg => (n_gtr (i := a0.length) (j := 12) rfl rfl)) (fun hg => (.cons hg (.cons rfl .nil))) ?_
 refine po 11 7 10 rfl rfl ?_
 refine rk 1 (.d4 (.k (.i 12 (vb ((decide (a0.length = 0)) || (decide (12 < a0.length)))) .n))) ?_
 refine gj (vt a0) 13 (.mov 0) 12 false rfl ?_
 refine cK h fun c1 h => ?_
 refine gv 14 (.sidx 13 (ki 0)) 12 false rfl (fun hg => (ok_sidx_t (j := 0) rfl rfl rfl (gor c1 hg))) (fun hg => (.cons hg (.cons rfl .nil))) ?_
 refine bK h fun y1 hy1 h => ?_
 refine gc 15 [14] 12 false rfl (fun hg => agraffebase_isLetter_ok n (((List.getD a0 0 0).toNat : Nat) : Int) y1 (gcall_some hy1 hg)) (fun hg => (.cons rfl (.cons hg .nil))) (fun hg => by kernel_rfl) ?_
 refine gk (vb (!(((decide ((97 : Int) ≤ (((List.getD a0 0 0).toNat : Nat) : Int))) && (decide ((((List.getD a0 0 0).toNat : Nat) : Int) ≤ (122 : Int)))) || ((decide ((65 : Int) ≤ (((List.getD a0 0 0).toNat : Nat) : Int))) && (decide ((((List.getD a0 0 0).toNat : Nat) : Int) ≤ (90 : Int))))))) 16 (.un .not 15) 12 false rfl (fun hg => (.cons hg .nil)) ?_
 refine po 17 12 16 rfl rfl ?_
 refine jf (.d4 (.d (.k (.i 17 (vb (((decide (a0.length = 0)) || (decide (12 < a0.length))) || (!(((decide ((97 : Int) ≤ (((List.getD a0 0 0).toNat : Nat) : Int))) && (decide ((((List.getD a0 0 0).toNat : Nat) : Int) ≤ (122 : Int)))) || ((decide ((65 : Int) ≤ (((List.getD a0 0 0).toNat : Nat) : Int))) && (decide ((((List.getD a0 0 0).toNat : Nat) : Int) ≤ (90 : Int)))))))) .n)))) ?_
 refine tc h (fun c2 h => ?_) (fun c2 h => ?_)
 ·refine sk (.i 2 (vb false) .n) ?_
  refine q3 ?_
  have h := si h
  subst h
  exact DoneS.ret Sees.refl rfl rfl
 refine q2 ?_
 refine TriE.seqK h (fun (_ : Unit) => St.mk [] []) ?_ ?_
 ·rintro ⟨⟩ h
  refine sk (.i 2 (vb true) .n) ?_
  refine q3 ?_
  have h := si h
  subst h
  exact DoneS.ret Sees.refl rfl rfl
 intro k1 h
 refine sk (.k (.i 3 (vi 0) .n)) ?_
 refine q4 ?_
 refine ts (.k (.i 3 (vi 0) .n)) ?_
 refine TriE.loopN h (fun (v4 : Nat) => St.mk [(0, vt a0), (3, vi v4)] []) rfl ?_
 clear h
 rintro back v4 h
 dsimp only [agraffebase_IsName_L1] at h
 refine q1 ?_
 refine sj ?_
 refine rk 2 (.k2 (.i 18 (vi v4) (.i 19 (vt a0) .n))) ?_
 refine jo 20 (.len 1 19) (ok_len_t rfl) ?_
 refine jo 21 (.bin .lss false 18 20) (n_lss (i := v4) (j := a0.length) rfl rfl) ?_
 refine jf (.d2 (.k2 (.i 21 (vb (decide (v4 < a0.length))) .n))) ?_
 refine tc h (fun c3 h => ?_) (fun c3 h => ?_)
 ·refine q2 ?_
  refine q7 ?_
  refine sj ?_
  refine rk 2 (.k2 (.i 24 (vt a0) (.i 25 (vi v4) .n))) ?_
  refine jo 26 (.sidx 24 25) (ok_sidx_t (j := v4) rfl rfl rfl c3) ?_
  refine bK h fun y5 hy5 h => ?_
  refine jc 27 [26] (agraffebase_isLetter_ok n (((List.getD a0 v4 0).toNat : Nat) : Int) y5 hy5) ?_
  refine rk 2 (.d2 (.k2 (.i 29 (vb (!(((decide ((97 : Int) ≤ (((List.getD a0 v4 0).toNat : Nat) : Int))) && (decide ((((List.getD a0 v4 0).toNat : Nat) : Int) ≤ (122 : Int)))) || ((decide ((65 : Int) ≤ (((List.getD a0 v4 0).toNat : Nat) : Int))) && (decide ((((List.getD a0 v4 0).toNat : Nat) : Int) ≤ (90 : Int))))))) .n))) ?_
  refine gj (vt a0) 30 (.mov 0) 29 true rfl ?_
  refine gj (vi v4) 31 (.mov 3) 29 true rfl ?_
  refine gv 32 (.sidx 30 31) 29 true rfl (fun hg => (ok_sidx_t (j := v4) rfl rfl rfl c3)) (fun hg => (.cons hg (.cons hg .nil))) ?_
  refine bK h fun y6 hy6 h => ?_
  refine gc 33 [32] 29 true rfl (fun hg => agraffebase_isDigit_ok n (((List.getD a0 v4 0).toNat : Nat) : Int) y6 (gcall_some hy6 hg)) (fun hg => (.cons rfl (.cons hg .nil))) (fun hg => by kernel_rfl) ?_
  refine gk (vb (!((decide ((48 : Int) ≤ (((List.getD a0 v4 0).toNat : Nat) : Int))) && (decide ((((List.getD a0 v4 0).toNat : Nat) : Int) ≤ (57 : Int)))))) 34 (.un .not 33) 29 true rfl (fun hg => (.cons hg .nil)) ?_
  refine pa 35 29 34 rfl rfl ?_
  refine rk 1 (.d4 (.d2 (.k2 (.i 30 (.cond (!(((decide ((97 : Int) ≤ (((List.getD a0 v4 0).toNat : Nat) : Int))) && (decide ((((List.getD a0 v4 0).toNat : Nat) : Int) ≤ (122 : Int)))) || ((decide ((65 : Int) ≤ (((List.getD a0 v4 0).toNat : Nat) : Int))) && (decide ((((List.getD a0 v4 0).toNat : Nat) : Int) ≤ (90 : Int)))))) (vt a0)) (.i 31 (.cond (!(((decide ((97 : Int) ≤ (((List.getD a0 v4 0).toNat : Nat) : Int))) && (decide ((((List.getD a0 v4 0).toNat : Nat) : Int) ≤ (122 : Int)))) || ((decide ((65 : Int) ≤ (((List.getD a0 v4 0).toNat : Nat) : Int))) && (decide ((((List.getD a0 v4 0).toNat : Nat) : Int) ≤ (90 : Int)))))) (vi v4)) (.i 32 (.cond (!(((decide ((97 : Int) ≤ (((List.getD a0 v4 0).toNat : Nat) : Int))) && (decide ((((List.getD a0 v4 0).toNat : Nat) : Int) ≤ (122 : Int)))) || ((decide ((65 : Int) ≤ (((List.getD a0 v4 0).toNat : Nat) : Int))) && (decide ((((List.getD a0 v4 0).toNat : Nat) : Int) ≤ (90 : Int)))))) (vk .u8 (((List.getD a0 v4 0).toNat : Nat) : Int))) (.i 33 (.cond (!(((decide ((97 : Int) ≤ (((List.getD a0 v4 0).toNat : Nat) : Int))) && (decide ((((List.getD a0 v4 0).toNat : Nat) : Int) ≤ (122 : Int)))) || ((decide ((65 : Int) ≤ (((List.getD a0 v4 0).toNat : Nat) : Int))) && (decide ((((List.getD a0 v4 0).toNat : Nat) : Int) ≤ (90 : Int)))))) (vb ((decide ((48 : Int) ≤ (((List.getD a0 v4 0).toNat : Nat) : Int))) && (decide ((((List.getD a0 v4 0).toNat : Nat) : Int) ≤ (57 : Int)))))) (.i 34 (.cond (!(((decide ((97 : Int) ≤ (((List.getD a0 v4 0).toNat : Nat) : Int))) && (decide ((((List.getD a0 v4 0).toNat : Nat) : Int) ≤ (122 : Int)))) || ((decide ((65 : Int) ≤ (((List.getD a0 v4 0).toNat : Nat) : Int))) && (decide ((((List.getD a0 v4 0).toNat : Nat) : Int) ≤ (90 : Int)))))) (vb (!((decide ((48 : Int) ≤ (((List.getD a0 v4 0).toNat : Nat) : Int))) && (decide ((((List.getD a0 v4 0).toNat : Nat) : Int) ≤ (57 : Int))))))) (.i 36 (vb ((!(((decide ((97 : Int) ≤ (((List.getD a0 v4 0).toNat : Nat) : Int))) && (decide ((((List.getD a0 v4 0).toNat : Nat) : Int) ≤ (122 : Int)))) || ((decide ((65 : Int) ≤ (((List.getD a0 v4 0).toNat : Nat) : Int))) && (decide ((((List.getD a0 v4 0).toNat : Nat) : Int) ≤ (90 : Int)))))) && (!((decide ((48 : Int) ≤ (((List.getD a0 v4 0).toNat : Nat) : Int))) && (decide ((((List.getD a0 v4 0).toNat : Nat) : Int) ≤ (57 : Int))))))) .n))))))))) ?_
  refine gj (vt a0) 37 (.mov 0) 36 true rfl ?_
  refine gj (vi v4) 38 (.mov 3) 36 true rfl ?_
  refine gv 39 (.sidx 37 38) 36 true rfl (fun hg => (ok_sidx_t (j := v4) rfl rfl rfl c3)) (fun hg => (.cons hg (.cons hg .nil))) ?_
  refine gk (vb ((((List.getD a0 v4 0).toNat : Nat) : Int) != (45 : Int))) 40 (.bin .neq false 39 (.c (.p (.int .u8 45)))) 36 true rfl (fun hg => (.cons hg (.cons rfl .nil))) ?_
  refine pa 41 36 40 rfl rfl ?_
  refine jf (.d4 (.d (.k2 (.i 41 (vb (((!(((decide ((97 : Int) ≤ (((List.getD a0 v4 0).toNat : Nat) : Int))) && (decide ((((List.getD a0 v4 0).toNat : Nat) : Int) ≤ (122 : Int)))) || ((decide ((65 : Int) ≤ (((List.getD a0 v4 0).toNat : Nat) : Int))) && (decide ((((List.getD a0 v4 0).toNat : Nat) : Int) ≤ (90 : Int)))))) && (!((decide ((48 : Int) ≤ (((List.getD a0 v4 0).toNat : Nat) : Int))) && (decide ((((List.getD a0 v4 0).toNat : Nat) : Int) ≤ (57 : Int)))))) && ((((List.getD a0 v4 0).toNat : Nat) : Int) != (45 : Int)))) .n)))) ?_
  refine tc h (fun c4 h => ?_) (fun c4 h => ?_)
  ·refine sk (.i 2 (vb false) .n) ?_
   refine q3 ?_
   have h := si h
   subst h
   exact DoneS.ret Sees.refl rfl rfl
  refine q2 ?_
  refine q6 ?_
  refine rk 1 (.k (.i 22 (vi v4) .n)) ?_
  refine cK h fun c5 h => ?_
  refine jo 23 (.bin .add false 22 (ki 1)) (r_addn (i := v4) (j := 1) rfl rfl c5) ?_
  refine jk 1 (.d (.k (.i 3 (vi ((v4 + 1 : Nat) : Int)) .n))) ?_
  exact Vs.intro sy ⟨(v4 + 1), rfl, h⟩
 refine q5 ?_
 exact Vs.intro sy ⟨(), rfl, h⟩
theorem agrafferef08_Find_ok (n : Nat) (a0 : List Task) (a1 : Str) (r : Int) (h : agrafferef08_Find n a0 a1 = some r) : FnL Tryz.prog 112 [eS 6 eTask a0, vt a1] [] (vi r) [] := by
 dsimp only [agrafferef08_Find] at h
 refine fo [4] Tryz.call112 Tryz.func112 rfl ?_
 refine sk .a ?_
 refine TriE.seqK h (fun (_ : Unit) => St.mk [] []) ?_ ?_
 ·rintro ⟨⟩ h
  refine sk (.i 4 (vi (-1)) .n) ?_
  refine q3 ?_
  have h := si h
  subst h
  exact DoneS.ret Sees.refl rfl rfl
 intro k1 h
 refine sk (.k2 (.i 5 (vi 0) .n)) ?_
 refine q4 ?_
 refine ts (.k2 (.i 5 (vi 0) .n)) ?_
 refine TriE.loopN h (fun (v1 : Nat) => St.mk [(0, eS 6 eTask a0), (1, vt a1), (5, vi v1)] []) rfl ?_
 clear h
 rintro back v1 h
 dsimp only [agrafferef08_Find_L1] at h
 refine q1 ?_
 refine sj ?_
 refine rk 2 (.k3 (.i 6 (vi v1) (.i 7 (eS 6 eTask a0) .n))) ?_
 refine jo 8 (.len 0 7) (ok_len_m rfl) ?_
 refine jo 9 (.bin .lss false 6 8) (n_lss (i := v1) (j := a0.length) rfl rfl) ?_
 refine jf (.d2 (.k3 (.i 9 (vb (decide (v1 < a0.length))) .n))) ?_
 refine tc h (fun c1 h => ?_) (fun c1 h => ?_)
 ·refine q2 ?_
  refine q7 ?_
  refine sj ?_
  refine rk 2 (.k3 (.i 12 (eS 6 eTask a0) (.i 13 (vi v1) .n))) ?_
  refine jo 14 (.iaddr 6 12 13) (ok_iaddr_m (j := v1) rfl rfl rfl c1) ?_
  refine rk 1 (.d (.k3 (.i 15 (.fptr 6 (List.map eTask a0) v1 0) .n))) ?_
  refine jo 16 (.load false 1 15) (ok_load_fm (v := vt ((ix a0 v1).Name)) rfl c1 rfl) ?_
  refine jk 2 (.d (.k3 (.i 18 (vb (((ix a0 v1).Name) == a1)) .n))) ?_
  refine tc h (fun c2 h => ?_) (fun c2 h => ?_)
  ·refine sk (.i 4 (vi v1) .n) ?_
   refine q3 ?_
   have h := si h
   subst h
   exact DoneS.ret Sees.refl rfl rfl
  refine q2 ?_
  refine q6 ?_
  refine rk 1 (.k2 (.i 10 (vi v1) .n)) ?_
  refine cK h fun c3 h => ?_
  refine jo 11 (.bin .add false 10 (ki 1)) (r_addn (i := v1) (j := 1) rfl rfl c3) ?_
  refine jk 1 (.d (.k2 (.i 5 (vi ((v1 + 1 : Nat) : Int)) .n))) ?_
  exact Vs.intro sy ⟨(v1 + 1), rfl, h⟩
 refine q5 ?_
 exact Vs.intro sy ⟨(), rfl, h⟩
theorem agraffebase_Within_ok (n : Nat) (a0 : Int) (a1 : Int) (a2 : Int) (r : Unit) (h : agraffebase_Within n a0 a1 a2 = some r) : FnL Tryz.prog 13 [vi a0, vi a1, vi a2] [] (vb ((decide (a1 ≤ a0)) && (decide (a0 ≤ a2)))) [] := by
 dsimp only [agraffebase_Within] at h
 refine fo [6] Tryz.call13 Tryz.func13 rfl ?_
 refine sk .a ?_
 refine sj ?_
 refine rk 4 (.k (.d (.k (.i 10 (vb (decide (a1 ≤ a0))) .n)))) ?_
 refine gj (vi a0) 11 (.mov 0) 10 true rfl ?_
 refine gj (vi a2) 12 (.mov 2) 10 true rfl ?_
 refine gk (vb (decide (a0 ≤ a2))) 13 (.bin .leq false 11 12) 10 true rfl (fun hg => (.cons hg (.cons hg .nil))) ?_
 refine pa 14 10 13 rfl rfl ?_
 refine jk 1 (.i 6 (vb ((decide (a1 ≤ a0)) && (decide (a0 ≤ a2)))) .n) ?_
 refine q3 ?_
 have h := si h
 subst h
 exact DoneS.ret Sees.refl rfl rfl
theorem agraffebase_HasText_ok (n : Nat) (a0 : List Str) (a1 : Str) (r : Bool) (h : agraffebase_HasText n a0 a1 = some r) : FnL Tryz.prog 115 [eS 1 vt a0, vt a1] [] (vb r) [] := by
 dsimp only [agraffebase_HasText] at h
 refine fo [4] Tryz.call115 Tryz.func115 rfl ?_
 refine sk .a ?_
 refine TriE.seqK h (fun (_ : Unit) => St.mk [] []) ?_ ?_
 ·rintro ⟨⟩ h
  refine sk (.i 4 (vb false) .n) ?_
  refine q3 ?_
  have h := si h
  subst h
  exact DoneS.ret Sees.refl rfl rfl
 intro k1 h
 refine sk (.k2 (.i 5 (vi 0) .n)) ?_
 refine q4 ?_
 refine ts (.k2 (.i 5 (vi 0) .n)) ?_
 refine TriE.loopN h (fun (v1 : Nat) => St.mk [(0, eS 1 vt a0), (1, vt a1), (5, vi v1)] []) rfl ?_
 clear h
 rintro back v1 h
 dsimp only [agraffebase_HasText_L1] at h
 refine q1 ?_
 refine sj ?_
 refine rk 2 (.k3 (.i 6 (vi v1) (.i 7 (eS 1 vt a0) .n))) ?_
 refine jo 8 (.len 0 7) (ok_len_m rfl) ?_
 refine jo 9 (.bin .lss false 6 8) (n_lss (i := v1) (j := a0.length) rfl rfl) ?_
 refine jf (.d2 (.k3 (.i 9 (vb (decide (v1 < a0.length))) .n))) ?_
 refine tc h (fun c1 h => ?_) (fun c1 h => ?_)
 ·refine q2 ?_
  refine q7 ?_
  refine sj ?_
  refine rk 2 (.k3 (.i 12 (eS 1 vt a0) (.i 13 (vi v1) .n))) ?_
  refine jo 14 (.iaddr 1 12 13) (ok_iaddr_m (j := v1) rfl rfl rfl c1) ?_
  refine jo 15 (.load false 1 14) (ok_load_fm (v := vt (ix a0 v1)) rfl c1 rfl) ?_
  refine jk 2 (.d2 (.k3 (.i 17 (vb ((ix a0 v1) == a1)) .n))) ?_
  refine tc h (fun c2 h => ?_) (fun c2 h => ?_)
  ·refine sk (.i 4 (vb true) .n) ?_
   refine q3 ?_
   have h := si h
   subst h
   exact DoneS.ret Sees.refl rfl rfl
  refine q2 ?_
  refine q6 ?_
  refine rk 1 (.k2 (.i 10 (vi v1) .n)) ?_
  refine cK h fun c3 h => ?_
  refine jo 11 (.bin .add false 10 (ki 1)) (r_addn (i := v1) (j := 1) rfl rfl c3) ?_
  refine jk 1 (.d (.k2 (.i 5 (vi ((v1 + 1 : Nat) : Int)) .n))) ?_
  exact Vs.intro sy ⟨(v1 + 1), rfl, h⟩
 refine q5 ?_
 exact Vs.intro sy ⟨(), rfl, h⟩
theorem agrafferef08_tasks_ok (n : Nat) (a0 : List Task) (a1 : List Str) (r : Int) (h : agrafferef08_tasks n a0 a1 = some r) : FnL Tryz.prog 113 [eS 6 eTask a0, eS 1 vt a1] [] (vi r) [] := by
 dsimp only [agrafferef08_tasks] at h
 refine fo [4] Tryz.call113 Tryz.func113 rfl ?_
 refine sk .a ?_
 refine TriE.seqK h (fun (_ : Unit) => St.mk [] []) ?_ ?_
 ·rintro ⟨⟩ h
  refine sk (.i 4 (vi 0) .n) ?_
  refine q3 ?_
  have h := si h
  subst h
  exact DoneS.ret Sees.refl rfl rfl
 intro k1 h
 refine sk (.k2 (.i 5 (vi 0) .n)) ?_
 refine q4 ?_
 refine ts (.k2 (.i 5 (vi 0) .n)) ?_
 refine TriE.loopN h (fun (v3 : Nat) => St.mk [(0, eS 6 eTask a0), (1, eS 1 vt a1), (5, vi v3)] []) rfl ?_
 clear h
 rintro back v3 h
 dsimp only [agrafferef08_tasks_L1] at h
 refine q1 ?_
 refine sj ?_
 refine rk 2 (.k3 (.i 6 (vi v3) (.i 7 (eS 1 vt a1) .n))) ?_
 refine jo 8 (.len 0 7) (ok_len_m rfl) ?_
 refine jo 9 (.bin .lss false 6 8) (n_lss (i := v3) (j := a1.length) rfl rfl) ?_
 refine jf (.d2 (.k3 (.i 9 (vb (decide (v3 < a1.length))) .n))) ?_
 refine tc h (fun c1 h => ?_) (fun c1 h => ?_)
 ·refine q2 ?_
  refine q7 ?_
  refine q1 ?_
  refine sj ?_
  refine rk 3 (.k3 (.i 12 (eS 6 eTask a0) (.i 13 (eS 1 vt a1) (.i 14 (vi v3) .n)))) ?_
  refine jo 15 (.iaddr 1 13 14) (ok_iaddr_m (j := v3) rfl rfl rfl c1) ?_
  refine jo 16 (.load false 1 15) (ok_load_fm (v := vt (ix a1 v3)) rfl c1 rfl) ?_
  refine bK h fun y4 hy4 h => ?_
  refine jc 17 [12, 16] (agrafferef08_Find_ok n a0 (ix a1 v3) y4 hy4) ?_
  refine jk 1 (.d3 (.k3 (.i 18 (vb (decide (y4 < (0 : Int)))) .n))) ?_
  refine tc h (fun c2 h => ?_) (fun c2 h => ?_)
  ·refine sk (.i 4 (vi 6) .n) ?_
   refine q3 ?_
   have h := si h
   subst h
   exact DoneS.ret Sees.refl rfl rfl
  refine q2 ?_
  refine q1 ?_
  refine ts (.k3 .n) ?_
  refine TriE.draw (by kernel_rfl) ?_
  refine dk 2 (.i 20 (vi v3) (.i 19 (eS 1 vt a1) .a)) ?_
  refine cK h fun c3 h => ?_
  refine dp 21 (.slc 1 19 none (some 20) none) (ok_slc_hi (j := v3) rfl rfl rfl c3) ?_
  refine dk 2 (.i 23 (vi v3) (.i 22 (eS 1 vt a1) .a)) ?_
  refine dp 24 (.iaddr 1 22 23) (ok_iaddr_m (j := v3) rfl rfl rfl c1) ?_
  refine dp 25 (.load false 1 24) (ok_load_fm (v := vt (ix a1 v3)) rfl c1 rfl) ?_
  refine bK h fun y5 hy5 h => ?_
  refine dc (vb y5) 0 26 [21, 25] (agraffebase_HasText_ok n (List.take v3 a1) (ix a1 v3) y5 hy5) [] rfl ObsRen.nil ObsRen.nil rfl (.inr ⟨rfl, rfl⟩) ?_
  refine dfi (.d4 (.d4 (.k3 (.i 26 (vb y5) .n)))) [] ObRen.nil ?_
  refine tc h (fun c4 h => ?_) (fun c4 h => ?_)
  ·refine sk (.i 4 (vi 5) .n) ?_
   refine q3 ?_
   have h := si h
   subst h
   exact DoneS.ret Sees.refl rfl rfl
  refine q2 ?_
  refine q6 ?_
  refine rk 1 (.k2 (.i 10 (vi v3) .n)) ?_
  refine cK h fun c5 h => ?_
  refine jo 11 (.bin .add false 10 (ki 1)) (r_addn (i := v3) (j := 1) rfl rfl c5) ?_
  refine jk 1 (.d (.k2 (.i 5 (vi ((v3 + 1 : Nat) : Int)) .n))) ?_
  exact Vs.intro sy ⟨(v3 + 1), rfl, h⟩
 refine q5 ?_
 exact Vs.intro sy ⟨(), rfl, h⟩
theorem agrafferef08_FindPart_ok (n : Nat) (a0 : List PartCount) (a1 : Str) (r : Int) (h : agrafferef08_FindPart n a0 a1 = some r) : FnL Tryz.prog 166 [eS 2 ePartCount a0, vt a1] [] (vi r) [] := by
 dsimp only [agrafferef08_FindPart] at h
 refine fo [4] Tryz.call166 Tryz.func166 rfl ?_
 refine sk .a ?_
 refine TriE.seqK h (fun (_ : Unit) => St.mk [] []) ?_ ?_
 ·rintro ⟨⟩ h
  refine sk (.i 4 (vi (-1)) .n) ?_
  refine q3 ?_
  have h := si h
  subst h
  exact DoneS.ret Sees.refl rfl rfl
 intro k1 h
 refine sk (.k2 (.i 5 (vi 0) .n)) ?_
 refine q4 ?_
 refine ts (.k2 (.i 5 (vi 0) .n)) ?_
 refine TriE.loopN h (fun (v1 : Nat) => St.mk [(0, eS 2 ePartCount a0), (1, vt a1), (5, vi v1)] []) rfl ?_
 clear h
 rintro back v1 h
 dsimp only [agrafferef08_FindPart_L1] at h
 refine q1 ?_
 refine sj ?_
 refine rk 2 (.k3 (.i 6 (vi v1) (.i 7 (eS 2 ePartCount a0) .n))) ?_
 refine jo 8 (.len 0 7) (ok_len_m rfl) ?_
 refine jo 9 (.bin .lss false 6 8) (n_lss (i := v1) (j := a0.length) rfl rfl) ?_
 refine jf (.d2 (.k3 (.i 9 (vb (decide (v1 < a0.length))) .n))) ?_
 refine tc h (fun c1 h => ?_) (fun c1 h => ?_)
 ·refine q2 ?_
  refine q7 ?_
  refine sj ?_
  refine rk 2 (.k3 (.i 12 (eS 2 ePartCount a0) (.i 13 (vi v1) .n))) ?_
  refine jo 14 (.iaddr 2 12 13) (ok_iaddr_m (j := v1) rfl rfl rfl c1) ?_
  refine rk 1 (.d (.k3 (.i 15 (.fptr 2 (List.map ePartCount a0) v1 0) .n))) ?_
  refine jo 16 (.load false 1 15) (ok_load_fm (v := vt ((ix a0 v1).Part)) rfl c1 rfl) ?_
  refine jk 2 (.d (.k3 (.i 18 (vb (((ix a0 v1).Part) == a1)) .n))) ?_
  refine tc h (fun c2 h => ?_) (fun c2 h => ?_)
  ·refine sk (.i 4 (vi v1) .n) ?_
   refine q3 ?_
   have h := si h
   subst h
   exact DoneS.ret Sees.refl rfl rfl
  refine q2 ?_
  refine q6 ?_
  refine rk 1 (.k2 (.i 10 (vi v1) .n)) ?_
  refine cK h fun c3 h => ?_
  refine jo 11 (.bin .add false 10 (ki 1)) (r_addn (i := v1) (j := 1) rfl rfl c3) ?_
  refine jk 1 (.d (.k2 (.i 5 (vi ((v1 + 1 : Nat) : Int)) .n))) ?_
  exact Vs.intro sy ⟨(v1 + 1), rfl, h⟩
 refine q5 ?_
 exact Vs.intro sy ⟨(), rfl, h⟩
theorem agrafferef08_counts_ok (n : Nat) (a0 : List PartCount) (a1 : Int) (r : Int) (h : agrafferef08_counts n a0 a1 = some r) : FnL Tryz.prog 114 [eS 2 ePartCount a0, vi a1] [] (vi r) [] := by
 dsimp only [agrafferef08_counts] at h
 refine fo [4] Tryz.call114 Tryz.func114 rfl ?_
 refine sk .a ?_
 refine TriE.seqK h (fun (_ : Unit) => St.mk [] []) ?_ ?_
 ·rintro ⟨⟩ h
  refine sk (.i 4 (vi 0) .n) ?_
  refine q3 ?_
  have h := si h
  subst h
  exact DoneS.ret Sees.refl rfl rfl
 intro k1 h
 refine sk (.k2 (.i 5 (vi 0) .n)) ?_
 refine q4 ?_
 refine ts (.k2 (.i 5 (vi 0) .n)) ?_
 refine TriE.loopN h (fun (v4 : Nat) => St.mk [(0, eS 2 ePartCount a0), (1, vi a1), (5, vi v4)] []) rfl ?_
 clear h
 rintro back v4 h
 dsimp only [agrafferef08_counts_L1] at h
 refine q1 ?_
 refine sj ?_
 refine rk 2 (.k3 (.i 6 (vi v4) (.i 7 (eS 2 ePartCount a0) .n))) ?_
 refine jo 8 (.len 0 7) (ok_len_m rfl) ?_
 refine jo 9 (.bin .lss false 6 8) (n_lss (i := v4) (j := a0.length) rfl rfl) ?_
 refine jf (.d2 (.k3 (.i 9 (vb (decide (v4 < a0.length))) .n))) ?_
 refine tc h (fun c1 h => ?_) (fun c1 h => ?_)
 ·refine q2 ?_
  refine q7 ?_
  refine q1 ?_
  refine sj ?_
  refine rk 2 (.k3 (.i 12 (eS 2 ePartCount a0) (.i 13 (vi v4) .n))) ?_
  refine jo 14 (.iaddr 2 12 13) (ok_iaddr_m (j := v4) rfl rfl rfl c1) ?_
  refine rk 1 (.d (.k3 (.i 15 (.fptr 2 (List.map ePartCount a0) v4 0) .n))) ?_
  refine jo 16 (.load false 1 15) (ok_load_fm (v := vt ((ix a0 v4).Part)) rfl c1 rfl) ?_
  refine bK h fun y5 hy5 h => ?_
  refine jc 17 [16] (agraffebase_IsName_ok n ((ix a0 v4).Part) y5 hy5) ?_
  refine jk 1 (.d2 (.k3 (.i 18 (vb (!y5)) .n))) ?_
  refine tc h (fun c2 h => ?_) (fun c2 h => ?_)
  ·refine sk (.i 4 (vi 4) .n) ?_
   refine q3 ?_
   have h := si h
   subst h
   exact DoneS.ret Sees.refl rfl rfl
  refine q2 ?_
  refine q1 ?_
  refine q1 ?_
  refine ts (.k3 .n) ?_
  refine TriE.draw (by kernel_rfl) ?_
  refine dk 2 (.i 20 (vi v4) (.i 19 (eS 2 ePartCount a0) .a)) ?_
  refine cK h fun c3 h => ?_
  refine dp 21 (.slc 2 19 none (some 20) none) (ok_slc_hi (j := v4) rfl rfl rfl c3) ?_
  refine dk 2 (.i 23 (vi v4) (.i 22 (eS 2 ePartCount a0) .a)) ?_
  refine dp 24 (.iaddr 2 22 23) (ok_iaddr_m (j := v4) rfl rfl rfl c1) ?_
  refine dk 1 (.i 25 (.fptr 2 (List.map ePartCount a0) v4 0) .a) ?_
  refine dp 26 (.load false 1 25) (ok_load_fm (v := vt ((ix a0 v4).Part)) rfl c1 rfl) ?_
  refine bK h fun y6 hy6 h => ?_
  refine dc (vi y6) 0 27 [21, 26] (agrafferef08_FindPart_ok n (List.take v4 a0) ((ix a0 v4).Part) y6 hy6) [] rfl ObsRen.nil ObsRen.nil rfl (.inr ⟨rfl, rfl⟩) ?_
  refine dk 1 (.i 28 (vb (decide ((0 : Int) ≤ y6))) .a) ?_
  refine dfi (.d4 (.d4 (.d2 (.k3 (.i 28 (vb (decide ((0 : Int) ≤ y6))) .n))))) [] ObRen.nil ?_
  refine tc h (fun c4 h => ?_) (fun c4 h => ?_)
  ·refine sk (.i 4 (vi 5) .n) ?_
   refine q3 ?_
   have h := si h
   subst h
   exact DoneS.ret Sees.refl rfl rfl
  refine q2 ?_
  refine sj ?_
  refine rk 2 (.k3 (.i 29 (eS 2 ePartCount a0) (.i 30 (vi v4) .n))) ?_
  refine jo 31 (.iaddr 2 29 30) (ok_iaddr_m (j := v4) rfl rfl rfl c1) ?_
  refine rk 1 (.d (.k3 (.i 32 (.fptr 2 (List.map ePartCount a0) v4 1) .n))) ?_
  refine jo 33 (.load false 1 32) (ok_load_fm (v := vi ((ix a0 v4).Count)) rfl c1 rfl) ?_
  refine rk 1 (.d (.k3 (.i 33 (vi ((ix a0 v4).Count)) (.i 34 (vi a1) .n)))) ?_
  refine bK h fun y7 hy7 h => ?_
  refine jc 35 [33, (ki 1), 34] (agraffebase_Within_ok n ((ix a0 v4).Count) 1 a1 y7 hy7) ?_
  refine jk 1 (.d (.k3 (.i 36 (vb (!((decide (1 ≤ ((ix a0 v4).Count))) && (decide (((ix a0 v4).Count) ≤ a1))))) .n))) ?_
  refine tc h (fun c5 h => ?_) (fun c5 h => ?_)
  ·refine sk (.i 4 (vi 2) .n) ?_
   refine q3 ?_
   have h := si h
   subst h
   exact DoneS.ret Sees.refl rfl rfl
  refine q2 ?_
  refine q6 ?_
  refine rk 1 (.k2 (.i 10 (vi v4) .n)) ?_
  refine cK h fun c6 h => ?_
  refine jo 11 (.bin .add false 10 (ki 1)) (r_addn (i := v4) (j := 1) rfl rfl c6) ?_
  refine jk 1 (.d (.k2 (.i 5 (vi ((v4 + 1 : Nat) : Int)) .n))) ?_
  exact Vs.intro sy ⟨(v4 + 1), rfl, h⟩
 refine q5 ?_
 exact Vs.intro sy ⟨(), rfl, h⟩
set_option maxHeartbeats 1000000 in
theorem agrafferef08_task_ok (n : Nat) (a0 : List Task) (a1 : Int) (r : Int) (h : agrafferef08_task n a0 a1 = some r) : FnL Tryz.prog 62 [eS 6 eTask a0, vi a1] [] (vi r) [] := by
 dsimp only [agrafferef08_task] at h
 refine fo [4] Tryz.call62 Tryz.func62 rfl ?_
 refine sk .a ?_
 refine sj ?_
 refine rk 2 (.k2 (.i 11 (eS 6 eTask a0) (.i 12 (vi a1) .n))) ?_
 refine cK h fun c1 h => ?_
 refine jo 13 (.iaddr 6 11 12) (ok_iaddr_m (j := a1.toNat) rfl rfl (inB_to c1) (inB_lt c1)) ?_
 refine cK h fun c2 h => ?_
 refine jo 14 (.load true 6 13) (ok_load_fm (v := .agg [vt ((ix a0 a1.toNat).Name), vi ((ix a0 a1.toNat).Cents), vi ((ix a0 a1.toNat).Hours), eS 1 vt ((ix a0 a1.toNat).Needs), eS 1 (eS 1 vt) ((ix a0 a1.toNat).OneOf), eS 2 ePartCount ((ix a0 a1.toNat).Parts)]) rfl c2 rfl) ?_
 refine jko 2 (.d2 (.k2 (.i 5 (.ptr 0 0 0) .n))) [some (.row 6 [.agg [vt ((ix a0 a1.toNat).Name), vi ((ix a0 a1.toNat).Cents), vi ((ix a0 a1.toNat).Hours), eS 1 vt ((ix a0 a1.toNat).Needs), eS 1 (eS 1 vt) ((ix a0 a1.toNat).OneOf), eS 2 ePartCount ((ix a0 a1.toNat).Parts)]])] ?_
 refine q1 ?_
 refine sj ?_
 refine rk 2 (.k3 (.i 16 (vt ((ix a0 a1.toNat).Name)) .n)) ?_
 refine bK h fun y1 hy1 h => ?_
 refine jc 17 [16] (agraffebase_IsName_ok n ((ix a0 a1.toNat).Name) y1 hy1) ?_
 refine jk 1 (.d (.k3 (.i 18 (vb (!y1)) .n))) ?_
 refine tc h (fun c3 h => ?_) (fun c3 h => ?_)
 ·refine sk (.i 4 (vi 4) .n) ?_
  refine q3 ?_
  have h := si h
  subst h
  exact DoneS.ret (S' := ⟨[(4, vi 4)], []⟩) (sc [] (by decide) (by kernel_rfl) ObRen.nil rfl rfl) rfl rfl
 refine q2 ?_
 refine q1 ?_
 refine q1 ?_
 refine ts (.k3 .n) ?_
 refine TriE.draw (by kernel_rfl) ?_
 refine dk 2 (.i 20 (vi a1) (.i 19 (eS 6 eTask a0) .a)) ?_
 refine cK h fun c4 h => ?_
 refine dp 21 (.slc 6 19 none (some 20) none) (ok_slc_hi (j := a1.toNat) rfl rfl (inC_to c4) (inC_le c4)) ?_
 refine dk 2 (.i 23 (vt ((ix a0 a1.toNat).Name)) (.i 22 (.ptr 0 0 0) .a)) ?_
 refine bK h fun y2 hy2 h => ?_
 refine dc (vi y2) 0 24 [21, 23] (agrafferef08_Find_ok n (List.take a1.toNat a0) ((ix a0 a1.toNat).Name) y2 hy2) [] rfl ObsRen.nil ObsRen.nil rfl (.inr ⟨rfl, rfl⟩) ?_
 refine dk 1 (.i 25 (vb (decide ((0 : Int) ≤ y2))) .a) ?_
 refine dfi (ob' := [some (.row 6 [.agg [vt ((ix a0 a1.toNat).Name), vi ((ix a0 a1.toNat).Cents), vi ((ix a0 a1.toNat).Hours), eS 1 vt ((ix a0 a1.toNat).Needs), eS 1 (eS 1 vt) ((ix a0 a1.toNat).OneOf), eS 2 ePartCount ((ix a0 a1.toNat).Parts)]])]) (.d4 (.d3 (.k (.d (.k (.i 25 (vb (decide ((0 : Int) ≤ y2))) .n)))))) [0] (.cons rfl .nil) ?_
 refine tc h (fun c5 h => ?_) (fun c5 h => ?_)
 ·refine sk (.i 4 (vi 5) .n) ?_
  refine q3 ?_
  have h := si h
  subst h
  exact DoneS.ret (S' := ⟨[(4, vi 5)], []⟩) (sc [] (by decide) (by kernel_rfl) ObRen.nil rfl rfl) rfl rfl
 refine q2 ?_
 refine q1 ?_
 refine sj ?_
 refine rk 2 (.k2 (.i 27 (vi ((ix a0 a1.toNat).Cents)) .n)) ?_
 refine bK h fun y3 hy3 h => ?_
 refine jc 28 [27, (ki 0), (ki 1000000000)] (agraffebase_Within_ok n ((ix a0 a1.toNat).Cents) 0 1000000000 y3 hy3) ?_
 refine rk 2 (.d (.k2 (.i 30 (vb (!((decide (0 ≤ ((ix a0 a1.toNat).Cents))) && (decide (((ix a0 a1.toNat).Cents) ≤ 1000000000))))) .n))) ?_
 refine gj (.ptr 0 0 2) 31 (.faddr 2 5) 30 false rfl ?_
 refine gk (vi ((ix a0 a1.toNat).Hours)) 32 (.load false 1 31) 30 false rfl (fun hg => (.cons hg .nil)) ?_
 refine bK h fun y4 hy4 h => ?_
 refine gc 33 [32, (ki 0), (ki 10000)] 30 false rfl (fun hg => agraffebase_Within_ok n ((ix a0 a1.toNat).Hours) 0 10000 y4 (gcall_some hy4 hg)) (fun hg => (.cons rfl (.cons hg (.cons rfl (.cons rfl .nil))))) (fun hg => by kernel_rfl) ?_
 refine gk (vb (!((decide (0 ≤ ((ix a0 a1.toNat).Hours))) && (decide (((ix a0 a1.toNat).Hours) ≤ 10000))))) 34 (.un .not 33) 30 false rfl (fun hg => (.cons hg .nil)) ?_
 refine po 35 30 34 rfl rfl ?_
 refine jf (.d4 (.d (.k2 (.i 35 (vb ((!((decide (0 ≤ ((ix a0 a1.toNat).Cents))) && (decide (((ix a0 a1.toNat).Cents) ≤ 1000000000)))) || (!((decide (0 ≤ ((ix a0 a1.toNat).Hours))) && (decide (((ix a0 a1.toNat).Hours) ≤ 10000)))))) .n)))) ?_
 refine tc h (fun c6 h => ?_) (fun c6 h => ?_)
 ·refine sk (.i 4 (vi 2) .n) ?_
  refine q3 ?_
  have h := si h
  subst h
  exact DoneS.ret (S' := ⟨[(4, vi 2)], []⟩) (sc [] (by decide) (by kernel_rfl) ObRen.nil rfl rfl) rfl rfl
 refine q2 ?_
 refine sj ?_
 refine rk 2 (.k2 (.i 37 (eS 1 vt ((ix a0 a1.toNat).Needs)) .n)) ?_
 refine jo 38 (.len 0 37) (ok_len_m rfl) ?_
 refine jo 39 (.bin .gtr false 38 (ki 10)) (n_gtr (i := ((ix a0 a1.toNat).Needs).length) (j := 10) rfl rfl) ?_
 refine rk 1 (.d2 (.k2 (.i 40 (vb (decide (10 < (((ix a0 a1.toNat).Needs).length)))) .n))) ?_
 refine gj (.ptr 0 0 4) 41 (.faddr 4 5) 40 false rfl ?_
 refine gk (eS 1 (eS 1 vt) ((ix a0 a1.toNat).OneOf)) 42 (.load false 1 41) 40 false rfl (fun hg => (.cons hg .nil)) ?_
 refine gv 43 (.len 0 42) 40 false rfl (fun hg => (ok_len_m rfl)) (fun hg => (.cons hg .nil)) ?_
 refine gv 44 (.bin .gtr false 43 (ki 6)) 40 false rfl (fun hg => (n_gtr (i := ((ix a0 a1.toNat).OneOf).length) (j := 6) rfl rfl)) (fun hg => (.cons hg (.cons rfl .nil))) ?_
 refine po 45 40 44 rfl rfl ?_
 refine rk 1 (.d4 (.d (.k2 (.i 46 (vb ((decide (10 < (((ix a0 a1.toNat).Needs).length))) || (decide (6 < (((ix a0 a1.toNat).OneOf).length))))) .n)))) ?_
 refine gj (.ptr 0 0 5) 47 (.faddr 5 5) 46 false rfl ?_
 refine gk (eS 2 ePartCount ((ix a0 a1.toNat).Parts)) 48 (.load false 1 47) 46 false rfl (fun hg => (.cons hg .nil)) ?_
 refine gv 49 (.len 0 48) 46 false rfl (fun hg => (ok_len_m rfl)) (fun hg => (.cons hg .nil)) ?_
 refine gv 50 (.bin .gtr false 49 (ki 10)) 46 false rfl (fun hg => (n_gtr (i := ((ix a0 a1.toNat).Parts).length) (j := 10) rfl rfl)) (fun hg => (.cons hg (.cons rfl .nil))) ?_
 refine po 51 46 50 rfl rfl ?_
 refine jk 1 (.d4 (.d (.k2 (.i 6 (vb (((decide (10 < (((ix a0 a1.toNat).Needs).length))) || (decide (6 < (((ix a0 a1.toNat).OneOf).length)))) || (decide (10 < (((ix a0 a1.toNat).Parts).length))))) .n)))) ?_
 refine TriE.seqK h (fun (v7 : Bool) => St.mk [(0, eS 6 eTask a0), (5, .ptr 0 0 0), (6, vb v7)] [some (.row 6 [.agg [vt ((ix a0 a1.toNat).Name), vi ((ix a0 a1.toNat).Cents), vi ((ix a0 a1.toNat).Hours), eS 1 vt ((ix a0 a1.toNat).Needs), eS 1 (eS 1 vt) ((ix a0 a1.toNat).OneOf), eS 2 ePartCount ((ix a0 a1.toNat).Parts)]])]) ?_ ?_
 ·rintro v7 h
  refine q1 ?_
  refine sk (.k2 (.i 69 (vb v7) .n)) ?_
  refine tc h (fun c11 h => ?_) (fun c11 h => ?_)
  ·refine sk (.i 4 (vi 8) .n) ?_
   refine q3 ?_
   have h := si h
   subst h
   exact DoneS.ret (S' := ⟨[(4, vi 8)], []⟩) (sc [] (by decide) (by kernel_rfl) ObRen.nil rfl rfl) rfl rfl
  refine q2 ?_
  refine q1 ?_
  refine sj ?_
  refine rk 3 (.k2 (.i 70 (eS 6 eTask a0) (.i 72 (eS 1 vt ((ix a0 a1.toNat).Needs)) .n))) ?_
  refine bK h fun y8 hy8 h => ?_
  refine jc 73 [70, 72] (agrafferef08_tasks_ok n a0 ((ix a0 a1.toNat).Needs) y8 hy8) ?_
  refine jk 1 (.d (.k2 (.i 8 (vi y8) .n))) ?_
  refine sk (.k3 (.i 75 (vb (y8 != (0 : Int))) .n)) ?_
  refine tc h (fun c12 h => ?_) (fun c12 h => ?_)
  ·refine sk (.i 4 (vi y8) .n) ?_
   refine q3 ?_
   have h := si h
   subst h
   exact DoneS.ret (S' := ⟨[(4, vi y8)], []⟩) (sc [] (by decide) (by kernel_rfl) ObRen.nil rfl rfl) rfl rfl
  refine q2 ?_
  refine TriE.seqK h (fun (_ : Unit) => St.mk [(5, .ptr 0 0 0)] [some (.row 6 [.agg [vt ((ix a0 a1.toNat).Name), vi ((ix a0 a1.toNat).Cents), vi ((ix a0 a1.toNat).Hours), eS 1 vt ((ix a0 a1.toNat).Needs), eS 1 (eS 1 vt) ((ix a0 a1.toNat).OneOf), eS 2 ePartCount ((ix a0 a1.toNat).Parts)]])]) ?_ ?_
  ·rintro ⟨⟩ h
   refine sj ?_
   refine rk 2 (.i 102 (eS 2 ePartCount ((ix a0 a1.toNat).Parts)) .n) ?_
   refine bK h fun y12 hy12 h => ?_
   refine jc 103 [102, (ki 1000)] (agrafferef08_counts_ok n ((ix a0 a1.toNat).Parts) 1000 y12 hy12) ?_
   refine jk 1 (.i 4 (vi y12) .n) ?_
   refine q3 ?_
   have h := si h
   subst h
   exact DoneS.ret (S' := ⟨[(4, vi y12)], []⟩) (sc [] (by decide) (by kernel_rfl) ObRen.nil rfl rfl) rfl rfl
  intro k2 h
  refine sk (.k2 (.i 9 (vi 0) .n)) ?_
  refine q4 ?_
  refine ts (.k2 (.i 9 (vi 0) .n)) ?_
  refine TriE.loopN h (fun (v10 : Nat) => St.mk [(0, eS 6 eTask a0), (5, .ptr 0 0 0), (9, vi v10)] [some (.row 6 [.agg [vt ((ix a0 a1.toNat).Name), vi ((ix a0 a1.toNat).Cents), vi ((ix a0 a1.toNat).Hours), eS 1 vt ((ix a0 a1.toNat).Needs), eS 1 (eS 1 vt) ((ix a0 a1.toNat).OneOf), eS 2 ePartCount ((ix a0 a1.toNat).Parts)]])]) rfl ?_
  clear h
  rintro back v10 h
  dsimp only [agrafferef08_task_L2] at h
  refine q1 ?_
  refine sj ?_
  refine rk 3 (.k3 (.i 77 (vi v10) (.i 79 (eS 1 (eS 1 vt) ((ix a0 a1.toNat).OneOf)) .n))) ?_
  refine jo 80 (.len 0 79) (ok_len_m rfl) ?_
  refine jo 81 (.bin .lss false 77 80) (n_lss (i := v10) (j := ((ix a0 a1.toNat).OneOf).length) rfl rfl) ?_
  refine jf (.d2 (.k3 (.i 81 (vb (decide (v10 < (((ix a0 a1.toNat).OneOf).length)))) .n))) ?_
  refine tc h (fun c13 h => ?_) (fun c13 h => ?_)
  ·refine q2 ?_
   refine q7 ?_
   refine q1 ?_
   refine sj ?_
   refine rk 3 (.k3 (.i 85 (eS 1 (eS 1 vt) ((ix a0 a1.toNat).OneOf)) (.i 86 (vi v10) .n))) ?_
   refine cK h fun c14 h => ?_
   refine jo 87 (.iaddr 1 85 86) (ok_iaddr_m (j := v10) rfl rfl rfl c14) ?_
   refine jo 88 (.load false 1 87) (ok_load_fm (v := eS 1 vt (ix ((ix a0 a1.toNat).OneOf) v10)) rfl c14 rfl) ?_
   refine jo 89 (.len 0 88) (ok_len_m rfl) ?_
   refine jo 90 (.bin .eql false 89 (ki 0)) (n_eql (i := (ix ((ix a0 a1.toNat).OneOf) v10).length) (j := 0) rfl rfl) ?_
   refine jf (.d4 (.k3 (.i 90 (vb (decide (((ix ((ix a0 a1.toNat).OneOf) v10).length) = 0))) .n))) ?_
   refine tc h (fun c15 h => ?_) (fun c15 h => ?_)
   ·refine sk (.i 4 (vi 10) .n) ?_
    refine q3 ?_
    have h := si h
    subst h
    exact DoneS.ret (S' := ⟨[(4, vi 10)], []⟩) (sc [] (by decide) (by kernel_rfl) ObRen.nil rfl rfl) rfl rfl
   refine q2 ?_
   refine sj ?_
   refine rk 4 (.k3 (.i 91 (eS 6 eTask a0) (.i 93 (eS 1 (eS 1 vt) ((ix a0 a1.toNat).OneOf)) (.i 94 (vi v10) .n)))) ?_
   refine jo 95 (.iaddr 1 93 94) (ok_iaddr_m (j := v10) rfl rfl rfl c14) ?_
   refine jo 96 (.load false 1 95) (ok_load_fm (v := eS 1 vt (ix ((ix a0 a1.toNat).OneOf) v10)) rfl c14 rfl) ?_
   refine bK h fun y11 hy11 h => ?_
   refine jc 97 [91, 96] (agrafferef08_tasks_ok n a0 (ix ((ix a0 a1.toNat).OneOf) v10) y11 hy11) ?_
   refine jk 1 (.d3 (.k3 (.i 10 (vi y11) .n))) ?_
   refine sk (.k4 (.i 99 (vb (y11 != (0 : Int))) .n)) ?_
   refine tc h (fun c16 h => ?_) (fun c16 h => ?_)
   ·refine sk (.i 4 (vi y11) .n) ?_
    refine q3 ?_
    have h := si h
    subst h
    exact DoneS.ret (S' := ⟨[(4, vi y11)], []⟩) (sc [] (by decide) (by kernel_rfl) ObRen.nil rfl rfl) rfl rfl
   refine q2 ?_
   refine q6 ?_
   refine rk 1 (.k2 (.i 82 (vi v10) .n)) ?_
   refine cK h fun c17 h => ?_
   refine jo 83 (.bin .add false 82 (ki 1)) (r_addn (i := v10) (j := 1) rfl rfl c17) ?_
   refine jk 1 (.d (.k2 (.i 9 (vi ((v10 + 1 : Nat) : Int)) .n))) ?_
   exact Vs.intro sy ⟨(v10 + 1), rfl, h⟩
  refine q5 ?_
  exact Vs.intro sy ⟨(), rfl, h⟩
 intro k1 h
 refine sk (.k3 (.i 7 (vi 0) .n)) ?_
 refine q4 ?_
 refine ts (.k3 (.i 7 (vi 0) .n)) ?_
 refine TriE.loopN h (fun (t : Bool × Nat) => match t with | (v5, v6) => St.mk [(0, eS 6 eTask a0), (5, .ptr 0 0 0), (6, vb v5), (7, vi v6)] [some (.row 6 [.agg [vt ((ix a0 a1.toNat).Name), vi ((ix a0 a1.toNat).Cents), vi ((ix a0 a1.toNat).Hours), eS 1 vt ((ix a0 a1.toNat).Needs), eS 1 (eS 1 vt) ((ix a0 a1.toNat).OneOf), eS 2 ePartCount ((ix a0 a1.toNat).Parts)]])]) rfl ?_
 clear h
 rintro back ⟨v5, v6⟩ h
 dsimp only [agrafferef08_task_L1] at h
 refine q1 ?_
 refine sj ?_
 refine rk 3 (.k4 (.i 52 (vi v6) (.i 54 (eS 1 (eS 1 vt) ((ix a0 a1.toNat).OneOf)) .n))) ?_
 refine jo 55 (.len 0 54) (ok_len_m rfl) ?_
 refine jo 56 (.bin .lss false 52 55) (n_lss (i := v6) (j := ((ix a0 a1.toNat).OneOf).length) rfl rfl) ?_
 refine jf (.d2 (.k4 (.i 56 (vb (decide (v6 < (((ix a0 a1.toNat).OneOf).length)))) .n))) ?_
 refine tc h (fun c7 h => ?_) (fun c7 h => ?_)
 ·refine q2 ?_
  refine q7 ?_
  refine q6 ?_
  refine rk 2 (.k2 (.d (.k (.i 60 (vb v5) .n)))) ?_
  refine gj (.ptr 0 0 4) 61 (.faddr 4 5) 60 false rfl ?_
  refine gk (eS 1 (eS 1 vt) ((ix a0 a1.toNat).OneOf)) 62 (.load false 1 61) 60 false rfl (fun hg => (.cons hg .nil)) ?_
  refine gj (vi v6) 63 (.mov 7) 60 false rfl ?_
  refine cK h fun c8 h => ?_
  refine gv 64 (.iaddr 1 62 63) 60 false rfl (fun hg => (ok_iaddr_m (j := v6) rfl rfl rfl (gor c8 hg))) (fun hg => (.cons hg (.cons hg .nil))) ?_
  refine cK h fun c9 h => ?_
  refine gv 65 (.load false 1 64) 60 false rfl (fun hg => (ok_load_fm (v := eS 1 vt (ix ((ix a0 a1.toNat).OneOf) v6)) rfl (gor c9 hg) rfl)) (fun hg => (.cons hg .nil)) ?_
  refine gv 66 (.len 0 65) 60 false rfl (fun hg => (ok_len_m rfl)) (fun hg => (.cons hg .nil)) ?_
  refine gv 67 (.bin .gtr false 66 (ki 6)) 60 false rfl (fun hg => (n_gtr (i := (ix ((ix a0 a1.toNat).OneOf) v6).length) (j := 6) rfl rfl)) (fun hg => (.cons hg (.cons rfl .nil))) ?_
  refine po 68 60 67 rfl rfl ?_
  refine jk 1 (.d4 (.d4 (.k3 (.i 6 (vb (v5 || (decide (6 < ((ix ((ix a0 a1.toNat).OneOf) v6).length))))) .n)))) ?_
  refine q6 ?_
  refine rk 1 (.k2 (.d (.k (.i 57 (vi v6) .n)))) ?_
  refine cK h fun c10 h => ?_
  refine jo 58 (.bin .add false 57 (ki 1)) (r_addn (i := v6) (j := 1) rfl rfl c10) ?_
  refine jk 1 (.d (.k3 (.i 7 (vi ((v6 + 1 : Nat) : Int)) .n))) ?_
  exact Vs.intro sy ⟨(v5 || (decide (6 < ((ix ((ix a0 a1.toNat).OneOf) v6).length))), v6 + 1), rfl, h⟩
 refine q5 ?_
 exact Vs.intro sy ⟨v5, rfl, h⟩
theorem agrafferef08_Leads_ok (n : Nat) (a0 : Task) (r : (List Str)) (h : agrafferef08_Leads n a0 = some r) : FnL Tryz.prog 116 [.agg [vt a0.Name, vi a0.Cents, vi a0.Hours, eS 1 vt a0.Needs, eS 1 (eS 1 vt) a0.OneOf, eS 2 ePartCount a0.Parts]] [] (eS 1 vt r) [] := by
 dsimp only [agrafferef08_Leads] at h
 refine fo [2] Tryz.call116 Tryz.func116 rfl ?_
 refine sko (.i 1 (.ptr 0 0 0) .n) [some (.row 6 [.agg [vt a0.Name, vi a0.Cents, vi a0.Hours, eS 1 vt a0.Needs, eS 1 (eS 1 vt) a0.OneOf, eS 2 ePartCount a0.Parts]])] ?_
 refine sj ?_
 refine rk 2 (.k (.i 6 (eS 1 vt a0.Needs) .n)) ?_
 refine bK h fun y1 hy1 h => ?_
 refine jco (.own 1 0 a0.Needs.length) 7 [6] (agraffebase_CopyTexts_ok n a0.Needs y1 hy1) [] rfl ObsRen.nil (.same (row_ren vt_frz _ _ _) .nil) rfl ?_
 refine jk 1 (.d (.k (.i 3 (.own 1 0 a0.Needs.length) .n))) ?_
 refine TriE.seqK h (fun (v4 : (List Str)) => St.mk [(3, .own 0 0 v4.length)] [some (.row 1 (List.map vt v4))]) ?_ ?_
 ·rintro v4 h
  refine sk (.i 2 (.own 0 0 v4.length) .n) ?_
  refine q3 ?_
  have h := si h
  subst h
  exact DoneS.ret (S' := ⟨[(2, eS 1 vt v4)], []⟩) (Sees.trans (Sees.freeze 0 (fr' := [(2, eS 1 vt v4)]) (ob' := [none]) rfl (frz_row vt_frzE _) (.cons (frz_full rfl) .nil) rfl) (sc [] (by decide) (by kernel_rfl) ObRen.nil rfl rfl)) rfl rfl
 intro k1 h
 refine sk (.k2 (.i 4 (vi 0) .n)) ?_
 refine q4 ?_
 refine ts (.k2 (.i 4 (vi 0) .n)) ?_
 refine TriE.loopN h (fun (t : Nat × (List Str)) => match t with | (v2, v3) => St.mk [(1, .ptr 0 0 0), (3, .own 1 0 v3.length), (4, vi v2)] [some (.row 6 [.agg [vt a0.Name, vi a0.Cents, vi a0.Hours, eS 1 vt a0.Needs, eS 1 (eS 1 vt) a0.OneOf, eS 2 ePartCount a0.Parts]]), some (.row 1 (List.map vt v3))]) rfl ?_
 clear h
 rintro back ⟨v2, v3⟩ h
 dsimp only [agrafferef08_Leads_L1] at h
 refine q1 ?_
 refine sj ?_
 refine rk 3 (.k3 (.i 8 (vi v2) (.i 10 (eS 1 (eS 1 vt) a0.OneOf) .n))) ?_
 refine jo 11 (.len 0 10) (ok_len_m rfl) ?_
 refine jo 12 (.bin .lss false 8 11) (n_lss (i := v2) (j := a0.OneOf.length) rfl rfl) ?_
 refine jf (.d2 (.k3 (.i 12 (vb (decide (v2 < a0.OneOf.length))) .n))) ?_
 refine tc h (fun c1 h => ?_) (fun c1 h => ?_)
 ·refine q2 ?_
  refine q7 ?_
  refine q6 ?_
  refine rk 4 (.k (.d (.k (.i 15 (.own 1 0 v3.length) (.i 17 (eS 1 (eS 1 vt) a0.OneOf) (.i 18 (vi v2) .n)))))) ?_
  refine jo 19 (.iaddr 1 17 18) (ok_iaddr_m (j := v2) rfl rfl rfl c1) ?_
  refine jo 20 (.load false 1 19) (ok_load_fm (v := eS 1 vt (ix a0.OneOf v2)) rfl c1 rfl) ?_
  refine cK h fun c2 h => ?_
  refine jx 21 (.app 1 16 15 20) _ (ok_app_own (l := v3) (l2 := (ix a0.OneOf v2)) (e := vt) (u := eS 1 vt (ix a0.OneOf v2)) rfl rfl rfl rfl els_sl c2) rfl rfl ?_
  refine jk 1 (.d3 (.k2 (.i 3 (.own 2 0 ((v3 ++ (ix a0.OneOf v2)).length)) .n))) ?_
  refine q6 ?_
  refine rk 1 (.k (.d (.k (.i 13 (vi v2) .n)))) ?_
  refine cK h fun c3 h => ?_
  refine jo 14 (.bin .add false 13 (ki 1)) (r_addn (i := v2) (j := 1) rfl rfl c3) ?_
  refine jk 1 (.d (.k2 (.i 4 (vi ((v2 + 1 : Nat) : Int)) .n))) ?_
  exact Vs.intro (sc [0, 2] (by decide) (by kernel_rfl) (.cons rfl (obRen_row vt_frz rfl .nil)) rfl rfl) ⟨(v2 + 1, (v3 ++ (ix a0.OneOf v2))), rfl, h⟩
 refine q5 ?_
 exact Vs.intro (sc [1] (by decide) (by kernel_rfl) (obRen_row vt_frz rfl .nil) rfl rfl) ⟨v3, rfl, h⟩
theorem agraffebase_HasText_2_ok (n : Nat) (a0 : List Str) (a1 : Str) (r : Bool) (h : agraffebase_HasText_2 n a0 a1 = some r) : FnL Tryz.prog 115 [.own 0 0 a0.length, vt a1] [some (.row 1 (List.map vt a0))] (vb r) [some (.row 1 (List.map vt a0))] := by
 dsimp only [agraffebase_HasText_2] at h
 refine fob [4] Tryz.call115 Tryz.func115 rfl (.cons rfl .nil) ?_
 refine sk .a ?_
 refine TriE.seqK h (fun (_ : Unit) => St.mk [] [some (.row 1 (List.map vt a0))]) ?_ ?_
 ·rintro ⟨⟩ h
  refine sk (.i 4 (vb false) .n) ?_
  refine q3 ?_
  have h := si h
  subst h
  exact DoneS.ret Sees.refl rfl rfl
 intro k1 h
 refine sk (.k2 (.i 5 (vi 0) .n)) ?_
 refine q4 ?_
 refine ts (.k2 (.i 5 (vi 0) .n)) ?_
 refine TriE.loopN h (fun (v1 : Nat) => St.mk [(0, .own 0 0 a0.length), (1, vt a1), (5, vi v1)] [some (.row 1 (List.map vt a0))]) rfl ?_
 clear h
 rintro back v1 h
 dsimp only [agraffebase_HasText_2_L1] at h
 refine q1 ?_
 refine sj ?_
 refine rk 3 (.k3 (.i 6 (vi v1) (.i 8 (vi (a0.length : Int)) .n))) ?_
 refine jo 9 (.bin .lss false 6 8) (n_lss (i := v1) (j := a0.length) rfl rfl) ?_
 refine jf (.d (.k3 (.i 9 (vb (decide (v1 < a0.length))) .n))) ?_
 refine tc h (fun c1 h => ?_) (fun c1 h => ?_)
 ·refine q2 ?_
  refine q7 ?_
  refine sj ?_
  refine rk 2 (.k3 (.i 12 (.own 0 0 a0.length) (.i 13 (vi v1) .n))) ?_
  refine jo 14 (.iaddr 1 12 13) (ok_iaddr_o0 (j := v1) rfl rfl rfl rfl c1) ?_
  refine jo 15 (.load false 1 14) (ok_load_pm (l := a0) (e := vt) (v := vt (ix a0 v1)) rfl rfl c1 rfl) ?_
  refine jk 2 (.d2 (.k3 (.i 17 (vb ((ix a0 v1) == a1)) .n))) ?_
  refine tc h (fun c2 h => ?_) (fun c2 h => ?_)
  ·refine sk (.i 4 (vb true) .n) ?_
   refine q3 ?_
   have h := si h
   subst h
   exact DoneS.ret Sees.refl rfl rfl
  refine q2 ?_
  refine q6 ?_
  refine rk 1 (.k2 (.i 10 (vi v1) .n)) ?_
  refine cK h fun c3 h => ?_
  refine jo 11 (.bin .add false 10 (ki 1)) (r_addn (i := v1) (j := 1) rfl rfl c3) ?_
  refine jk 1 (.d (.k2 (.i 5 (vi ((v1 + 1 : Nat) : Int)) .n))) ?_
  exact Vs.intro sy ⟨(v1 + 1), rfl, h⟩
 refine q5 ?_
 exact Vs.intro sy ⟨(), rfl, h⟩
set_option maxHeartbeats 1000000 in
theorem agrafferef08_Order_ok (n : Nat) (a0 : List Task) (a1 : List Str) (r : (List Str)) (h : agrafferef08_Order n a0 a1 = some r) : FnL Tryz.prog 63 [eS 6 eTask a0, eS 1 vt a1] [] (eS 1 vt r) [] := by
 dsimp only [agrafferef08_Order] at h
 refine fo [4] Tryz.call63 Tryz.func63 rfl ?_
 refine sk .a ?_
 refine sk (.k2 (.i 5 .emp .n)) ?_
 refine q4 ?_
 refine TriE.sees (S' := ⟨[(0, eS 6 eTask a0), (1, eS 1 vt a1), (5, .own 0 0 ([] : List Str).length)], [some (.row 1 (List.map vt ([] : List Str)))]⟩) (Sees.trans (Sees.co (fr' := [(0, eS 6 eTask a0), (1, eS 1 vt a1), (5, .own 0 0 0)]) (ob' := []) (.cons .same (.cons .same (.cons .own .nil))) ObCo.nil 1) sy) ?_
 refine TriE.loopN h (fun (v26 : (List Str)) => St.mk [(0, eS 6 eTask a0), (1, eS 1 vt a1), (5, .own 0 0 v26.length)] [some (.row 1 (List.map vt v26))]) rfl ?_
 clear h
 rintro back v26 h
 dsimp only [agrafferef08_Order_L3] at h
 refine q4 ?_
 refine sk (.k3 (.i 6 (vi (-1)) .n)) ?_
 refine TriE.seqK h (fun (v51 : Int) => St.mk [(0, eS 6 eTask a0), (1, eS 1 vt a1), (5, .own 0 0 v26.length), (6, vi v51)] [some (.row 1 (List.map vt v26))]) ?_ ?_
 ·rintro v51 h
  refine q1 ?_
  refine sk (.k4 (.i 70 (vb (decide (v51 < (0 : Int)))) .n)) ?_
  refine tc h (fun c8 h => ?_) (fun c8 h => ?_)
  ·refine sk (.i 4 (.own 0 0 v26.length) .n) ?_
   refine q3 ?_
   have h := si h
   subst h
   exact DoneS.ret (S' := ⟨[(4, eS 1 vt v26)], []⟩) (Sees.trans (Sees.freeze 0 (fr' := [(4, eS 1 vt v26)]) (ob' := [none]) rfl (frz_row vt_frzE _) (.cons (frz_full rfl) .nil) rfl) (sc [] (by decide) (by kernel_rfl) ObRen.nil rfl rfl)) rfl rfl
  refine q2 ?_
  refine q6 ?_
  refine rk 3 (.k2 (.i 72 (.own 0 0 v26.length) (.i 73 (eS 6 eTask a0) (.i 74 (vi v51) .n)))) ?_
  refine cK h fun c9 h => ?_
  refine jo 75 (.iaddr 6 73 74) (ok_iaddr_m (j := v51.toNat) rfl rfl (inB_to c9) (inB_lt c9)) ?_
  refine rk 1 (.d (.k3 (.i 76 (.fptr 6 (List.map eTask a0) v51.toNat 0) .n))) ?_
  refine cK h fun c10 h => ?_
  refine jo 77 (.load false 1 76) (ok_load_fm (v := vt ((ix a0 v51.toNat).Name)) rfl c10 rfl) ?_
  refine rko 1 (.d (.k3 (.i 78 (.own 1 0 1) .n))) [some (.row 1 (List.map vt v26)), some (.row 1 [vt ((ix a0 v51.toNat).Name)])] ?_
  refine cK h fun c11 h => ?_
  refine jx 79 (.app 1 16 72 78) _ (ok_app_own (l := v26) (l2 := ([(ix a0 v51.toNat).Name] : List Str)) (e := vt) (u := .own 1 0 1) rfl rfl rfl rfl rfl c11) rfl rfl ?_
  refine jk 1 (.d (.k2 (.i 5 (.own 2 0 ((v26 ++ ([(ix a0 v51.toNat).Name] : List Str)).length)) .n))) ?_
  exact Vs.intro (sc [2] (by decide) (by kernel_rfl) (obRen_row vt_frz rfl .nil) rfl rfl) ⟨(v26 ++ ([(ix a0 v51.toNat).Name] : List Str)), rfl, h⟩
 intro k3 h
 refine sk (.k4 (.i 7 (vi 0) .n)) ?_
 refine q4 ?_
 refine ts (.k4 (.i 7 (vi 0) .n)) ?_
 refine TriE.loopN h (fun (t : Int × Nat) => match t with | (v38, v39) => St.mk [(0, eS 6 eTask a0), (1, eS 1 vt a1), (5, .own 0 0 v26.length), (6, vi v38), (7, vi v39)] [some (.row 1 (List.map vt v26))]) rfl ?_
 clear h
 rintro back ⟨v38, v39⟩ h
 dsimp only [agrafferef08_Order_L2] at h
 refine q1 ?_
 refine sj ?_
 refine rk 2 (.k4 (.k (.i 11 (vi v39) (.i 12 (eS 6 eTask a0) .n)))) ?_
 refine jo 13 (.len 0 12) (ok_len_m rfl) ?_
 refine jo 14 (.bin .lss false 11 13) (n_lss (i := v39) (j := a0.length) rfl rfl) ?_
 refine rk 1 (.d2 (.k4 (.k (.i 15 (vb (decide (v39 < a0.length))) .n)))) ?_
 refine gj (vi v38) 16 (.mov 6) 15 true rfl ?_
 refine gk (vb (decide (v38 < (0 : Int)))) 17 (.bin .lss false 16 (ki 0)) 15 true rfl (fun hg => (.cons hg (.cons rfl .nil))) ?_
 refine pa 18 15 17 rfl rfl ?_
 refine jf (.d3 (.k4 (.k (.i 18 (vb ((decide (v39 < a0.length)) && (decide (v38 < (0 : Int))))) .n)))) ?_
 refine tc h (fun c1 h => ?_) (fun c1 h => ?_)
 ·refine q2 ?_
  refine TriE.seqK h (fun (v50 : Int) => St.mk [(0, eS 6 eTask a0), (1, eS 1 vt a1), (5, .own 0 0 v26.length), (6, vi v50), (7, vi v39)] [some (.row 1 (List.map vt v26))]) ?_ ?_
  ·rintro v50 h
   refine q6 ?_
   refine rk 1 (.k4 (.i 19 (vi v39) .n)) ?_
   refine cK h fun c7 h => ?_
   refine jo 20 (.bin .add false 19 (ki 1)) (r_addn (i := v39) (j := 1) rfl rfl c7) ?_
   refine jk 1 (.d (.k4 (.i 7 (vi ((v39 + 1 : Nat) : Int)) .n))) ?_
   exact Vs.intro sy ⟨(v50, v39 + 1), rfl, h⟩
  intro k2 h
  refine q4 ?_
  refine q1 ?_
  refine sj ?_
  refine rk 3 (.k4 (.k (.i 21 (eS 1 vt a1) (.i 22 (eS 6 eTask a0) (.i 23 (vi v39) .n))))) ?_
  refine cK h fun c2 h => ?_
  refine jo 24 (.iaddr 6 22 23) (ok_iaddr_m (j := v39) rfl rfl rfl c2) ?_
  refine rk 1 (.d (.k4 (.k2 (.i 25 (.fptr 6 (List.map eTask a0) v39 0) .n)))) ?_
  refine jo 26 (.load false 1 25) (ok_load_fm (v := vt ((ix a0 v39).Name)) rfl c2 rfl) ?_
  refine bK h fun y40 hy40 h => ?_
  refine jc 27 [21, 26] (agraffebase_HasText_ok n a1 ((ix a0 v39).Name) y40 hy40) ?_
  refine rk 2 (.d2 (.k4 (.k (.i 29 (vb (!y40)) .n)))) ?_
  refine gj (.own 0 0 v26.length) 30 (.mov 5) 29 false rfl ?_
  refine gj (eS 6 eTask a0) 31 (.mov 0) 29 false rfl ?_
  refine gj (vi v39) 32 (.mov 7) 29 false rfl ?_
  refine gv 33 (.iaddr 6 31 32) 29 false rfl (fun hg => (ok_iaddr_m (j := v39) rfl rfl rfl c2)) (fun hg => (.cons hg (.cons hg .nil))) ?_
  refine gk (.fptr 6 (List.map eTask a0) v39 0) 34 (.faddr 0 33) 29 false rfl (fun hg => (.cons hg .nil)) ?_
  refine gv 35 (.load false 1 34) 29 false rfl (fun hg => (ok_load_fm (v := vt ((ix a0 v39).Name)) rfl c2 rfl)) (fun hg => (.cons hg .nil)) ?_
  refine bK h fun y41 hy41 h => ?_
  refine RegJ.op (Op1.callg (g := !(!y40)) (y' := vb y41) (obx := [some (.row 1 (List.map vt v26))]) _ _ (cy (IG 36 (.call 115 [30, 35]) 29 false)) rfl (fun hg => agraffebase_HasText_2_ok n v26 ((ix a0 v39).Name) y41 (gcall_some hy41 hg)) [0] (fun hg => by kernel_rfl) (fun hg => (.cons rfl (.cons hg (.cons hg .nil)))) (by kernel_rfl) (by kernel_rfl) (.same (row_ren vt_frz _ _ _) .nil) (by kernel_rfl) (by kernel_rfl)) ?_
  refine po 37 29 36 rfl rfl ?_
  refine jf (.d4 (.d4 (.k4 (.k (.i 37 (vb ((!y40) || y41)) .n))))) ?_
  refine tc h (fun c3 h => ?_) (fun c3 h => ?_)
  ·refine q5 ?_
   exact Vs.intro sy ⟨v38, rfl, h⟩
  refine q2 ?_
  refine sk (.k4 (.k (.i 8 (vb true) .n))) ?_
  refine sj ?_
  refine rk 2 (.k4 (.k2 (.i 38 (eS 6 eTask a0) (.i 39 (vi v39) .n)))) ?_
  refine jo 40 (.iaddr 6 38 39) (ok_iaddr_m (j := v39) rfl rfl rfl c2) ?_
  refine jo 41 (.load true 6 40) (ok_load_fm (v := .agg [vt ((ix a0 v39).Name), vi ((ix a0 v39).Cents), vi ((ix a0 v39).Hours), eS 1 vt ((ix a0 v39).Needs), eS 1 (eS 1 vt) ((ix a0 v39).OneOf), eS 2 ePartCount ((ix a0 v39).Parts)]) rfl c2 rfl) ?_
  refine bK h fun y42 hy42 h => ?_
  refine jc 42 [41] (agrafferef08_Leads_ok n (ix a0 v39) y42 hy42) ?_
  refine jk 1 (.d3 (.k4 (.k2 (.i 9 (eS 1 vt y42) .n)))) ?_
  refine TriE.seqK h (fun (v49 : Bool) => St.mk [(0, eS 6 eTask a0), (1, eS 1 vt a1), (5, .own 0 0 v26.length), (6, vi v38), (7, vi v39), (8, vb v49)] [some (.row 1 (List.map vt v26))]) ?_ ?_
  ·rintro v49 h
   refine sk (.k4 (.k (.i 67 (vb v49) .n))) ?_
   refine tc h (fun c6 h => ?_) (fun c6 h => ?_)
   ·refine tk (.k3 (.d (.k (.i 6 (vi v39) .n)))) ?_
    exact Vs.intro sy ⟨(v39 : Int), rfl, h⟩
   refine q2 ?_
   exact Vs.intro sy ⟨v38, rfl, h⟩
  intro k1 h
  refine sk (.k4 (.k3 (.i 10 (vi 0) .n))) ?_
  refine q4 ?_
  refine ts (.k4 (.k3 (.i 10 (vi 0) .n))) ?_
  refine TriE.loopN h (fun (t : Bool × Nat) => match t with | (v45, v46) => St.mk [(0, eS 6 eTask a0), (1, eS 1 vt a1), (5, .own 0 0 v26.length), (6, vi v38), (7, vi v39), (8, vb v45), (9, eS 1 vt y42), (10, vi v46)] [some (.row 1 (List.map vt v26))]) rfl ?_
  clear h
  rintro back ⟨v45, v46⟩ h
  dsimp only [agrafferef08_Order_L1] at h
  refine q1 ?_
  refine sj ?_
  refine rk 2 (.k4 (.k4 (.i 43 (vi v46) (.i 44 (eS 1 vt y42) .n)))) ?_
  refine jo 45 (.len 0 44) (ok_len_m rfl) ?_
  refine jo 46 (.bin .lss false 43 45) (n_lss (i := v46) (j := y42.length) rfl rfl) ?_
  refine jf (.d2 (.k4 (.k4 (.i 46 (vb (decide (v46 < y42.length))) .n)))) ?_
  refine tc h (fun c4 h => ?_) (fun c4 h => ?_)
  ·refine q2 ?_
   refine q7 ?_
   refine q6 ?_
   refine rk 2 (.k4 (.k (.d (.k2 (.i 50 (vb v45) .n))))) ?_
   refine gj (eS 1 vt a1) 51 (.mov 1) 50 true rfl ?_
   refine gj (eS 1 vt y42) 52 (.mov 9) 50 true rfl ?_
   refine gj (vi v46) 53 (.mov 10) 50 true rfl ?_
   refine gv 54 (.iaddr 1 52 53) 50 true rfl (fun hg => (ok_iaddr_m (j := v46) rfl rfl rfl c4)) (fun hg => (.cons hg (.cons hg .nil))) ?_
   refine gv 55 (.load false 1 54) 50 true rfl (fun hg => (ok_load_fm (v := vt (ix y42 v46)) rfl c4 rfl)) (fun hg => (.cons hg .nil)) ?_
   refine bK h fun y47 hy47 h => ?_
   refine gc 56 [51, 55] 50 true rfl (fun hg => agraffebase_HasText_ok n a1 (ix y42 v46) y47 (gcall_some hy47 hg)) (fun hg => (.cons rfl (.cons hg (.cons hg .nil)))) (fun hg => by kernel_rfl) ?_
   refine gk (vb (!y47)) 57 (.un .not 56) 50 true rfl (fun hg => (.cons hg .nil)) ?_
   refine gk (vb (!y47)) 58 (.mov 57) 50 true rfl (fun hg => (.cons hg .nil)) ?_
   refine gj (.own 0 0 v26.length) 59 (.mov 5) 58 false rfl ?_
   refine gj (eS 1 vt y42) 60 (.mov 9) 58 false rfl ?_
   refine gj (vi v46) 61 (.mov 10) 58 false rfl ?_
   refine gv 62 (.iaddr 1 60 61) 58 false rfl (fun hg => (ok_iaddr_m (j := v46) rfl rfl rfl c4)) (fun hg => (.cons hg (.cons hg .nil))) ?_
   refine gv 63 (.load false 1 62) 58 false rfl (fun hg => (ok_load_fm (v := vt (ix y42 v46)) rfl c4 rfl)) (fun hg => (.cons hg .nil)) ?_
   refine bK h fun y48 hy48 h => ?_
   refine RegJ.op (Op1.callg (g := v45 && !(!y47)) (y' := vb y48) (obx := [some (.row 1 (List.map vt v26))]) _ _ (cy (IG 64 (.call 115 [59, 63]) 58 false)) rfl (fun hg => agraffebase_HasText_2_ok n v26 (ix y42 v46) y48 (gcall_some hy48 hg)) [0] (fun hg => by kernel_rfl) (fun hg => (.cons rfl (.cons hg (.cons hg .nil)))) (by kernel_rfl) (by kernel_rfl) (.same (row_ren vt_frz _ _ _) .nil) (by kernel_rfl) (by kernel_rfl)) ?_
   refine RegJ.op (Op1.org (g := v45) (cy (IG 65 (.pick 58 (.c (.p (.bool true))) 64) 50 true)) rfl rfl rfl (fun hg => by first | exact hokO2 hg | exact hokO3 hg | exact hokO1 | exact hokO0 | (rw [hg]; simp) | simp_all)) ?_
   refine pa 66 50 65 rfl rfl ?_
   refine jk 1 (.d4 (.d4 (.d4 (.d4 (.k4 (.k3 (.i 8 (vb (v45 && ((!y47) || y48))) .n))))))) ?_
   refine q6 ?_
   refine rk 1 (.k4 (.k2 (.d (.k (.i 47 (vi v46) .n))))) ?_
   refine cK h fun c5 h => ?_
   refine jo 48 (.bin .add false 47 (ki 1)) (r_addn (i := v46) (j := 1) rfl rfl c5) ?_
   refine jk 1 (.d (.k4 (.k3 (.i 10 (vi ((v46 + 1 : Nat) : Int)) .n)))) ?_
   exact Vs.intro sy ⟨(v45 && ((!y47) || y48), v46 + 1), rfl, h⟩
  refine q5 ?_
  exact Vs.intro sy ⟨v45, rfl, h⟩
 refine q5 ?_
 exact Vs.intro sy ⟨v38, rfl, h⟩
set_option maxHeartbeats 1000000 in
theorem agrafferef08_CheckTasks_ok (n : Nat) (a0 : List Task) (r : Int) (h : agrafferef08_CheckTasks n a0 = some r) : FnL Tryz.prog 24 [eS 6 eTask a0] [] (vi r) [] := by
 dsimp only [agrafferef08_CheckTasks] at h
 refine fo [2] Tryz.call24 Tryz.func24 rfl ?_
 refine sk .a ?_
 refine q1 ?_
 refine sj ?_
 refine rk 1 (.k (.i 7 (eS 6 eTask a0) .n)) ?_
 refine jo 8 (.len 0 7) (ok_len_m rfl) ?_
 refine jo 9 (.bin .gtr false 8 (ki 60)) (n_gtr (i := a0.length) (j := 60) rfl rfl) ?_
 refine jf (.d2 (.k (.i 9 (vb (decide (60 < a0.length))) .n))) ?_
 refine tc h (fun c1 h => ?_) (fun c1 h => ?_)
 ·refine sk (.i 2 (vi 8) .n) ?_
  refine q3 ?_
  have h := si h
  subst h
  exact DoneS.ret Sees.refl rfl rfl
 refine q2 ?_
 refine TriE.seqK h (fun (_ : Unit) => St.mk [(0, eS 6 eTask a0)] []) ?_ ?_
 ·rintro ⟨⟩ h
  refine sk (.k (.i 5 .emp .n)) ?_
  refine TriE.seqK h (fun (v6 : (List Str)) => St.mk [(0, eS 6 eTask a0), (5, .own 0 0 v6.length)] [some (.row 1 (List.map vt v6))]) ?_ ?_
  ·rintro v6 h
   refine q1 ?_
   refine sj ?_
   refine rk 2 (.k (.i 36 (eS 6 eTask a0) (.i 37 (.own 0 0 v6.length) .n))) ?_
   refine RegJ.sees (Sees.freeze 0 (fr' := [(0, eS 6 eTask a0), (36, eS 6 eTask a0), (37, eS 1 vt v6)]) (ob' := [none]) rfl (frz_row vt_frzE _) (.cons (.refl _) (.cons (.refl _) (.cons (frz_full rfl) .nil))) rfl) ?_
   refine bK h fun y7 hy7 h => ?_
   refine jc 38 [36, 37] (agrafferef08_Order_ok n a0 v6 y7 hy7) ?_
   refine jo 39 (.len 0 38) (ok_len_m rfl) ?_
   refine rk 1 (.k (.i 40 (eS 6 eTask a0) .n)) ?_
   refine jo 41 (.len 0 40) (ok_len_m rfl) ?_
   refine jo 42 (.bin .lss false 39 41) (n_lss (i := y7.length) (j := a0.length) rfl rfl) ?_
   refine jf (.k .n) ?_
   refine tc h (fun c8 h => ?_) (fun c8 h => ?_)
   ·refine sk (.i 2 (vi 21) .n) ?_
    refine q3 ?_
    have h := si h
    subst h
    exact DoneS.ret (S' := ⟨[(2, vi 21)], []⟩) (sc [] (by decide) (by kernel_rfl) ObRen.nil rfl rfl) rfl rfl
   refine q2 ?_
   refine sk (.i 2 (vi 0) .n) ?_
   refine q3 ?_
   have h := si h
   subst h
   exact DoneS.ret (S' := ⟨[(2, vi 0)], []⟩) (sc [] (by decide) (by kernel_rfl) ObRen.nil rfl rfl) rfl rfl
  intro k2 h
  refine sk (.k2 (.i 6 (vi 0) .n)) ?_
  refine q4 ?_
  refine TriE.sees (S' := ⟨[(0, eS 6 eTask a0), (5, .own 0 0 ([] : List Str).length), (6, vi 0)], [some (.row 1 (List.map vt ([] : List Str)))]⟩) (Sees.trans (Sees.co (fr' := [(0, eS 6 eTask a0), (5, .own 0 0 0), (6, vi 0)]) (ob' := []) (.cons .same (.cons .own (.cons .same .nil))) ObCo.nil 1) sy) ?_
  refine TriE.loopN h (fun (t : (List Str) × Nat) => match t with | (v4, v5) => St.mk [(0, eS 6 eTask a0), (5, .own 0 0 v4.length), (6, vi v5)] [some (.row 1 (List.map vt v4))]) rfl ?_
  clear h
  rintro back ⟨v4, v5⟩ h
  dsimp only [agrafferef08_CheckTasks_L2] at h
  refine q1 ?_
  refine sj ?_
  refine rk 2 (.k3 (.i 22 (vi v5) (.i 23 (eS 6 eTask a0) .n))) ?_
  refine jo 24 (.len 0 23) (ok_len_m rfl) ?_
  refine jo 25 (.bin .lss false 22 24) (n_lss (i := v5) (j := a0.length) rfl rfl) ?_
  refine jf (.d2 (.k3 (.i 25 (vb (decide (v5 < a0.length))) .n))) ?_
  refine tc h (fun c5 h => ?_) (fun c5 h => ?_)
  ·refine q2 ?_
   refine q7 ?_
   refine q6 ?_
   refine rk 3 (.k (.d (.k (.i 28 (.own 0 0 v4.length) (.i 29 (eS 6 eTask a0) (.i 30 (vi v5) .n)))))) ?_
   refine jo 31 (.iaddr 6 29 30) (ok_iaddr_m (j := v5) rfl rfl rfl c5) ?_
   refine rk 1 (.d (.k3 (.i 32 (.fptr 6 (List.map eTask a0) v5 0) .n))) ?_
   refine jo 33 (.load false 1 32) (ok_load_fm (v := vt ((ix a0 v5).Name)) rfl c5 rfl) ?_
   refine rko 1 (.d (.k3 (.i 34 (.own 1 0 1) .n))) [some (.row 1 (List.map vt v4)), some (.row 1 [vt ((ix a0 v5).Name)])] ?_
   refine cK h fun c6 h => ?_
   refine jx 35 (.app 1 16 28 34) _ (ok_app_own (l := v4) (l2 := ([(ix a0 v5).Name] : List Str)) (e := vt) (u := .own 1 0 1) rfl rfl rfl rfl rfl c6) rfl rfl ?_
   refine jk 1 (.d (.k2 (.i 5 (.own 2 0 ((v4 ++ ([(ix a0 v5).Name] : List Str)).length)) .n))) ?_
   refine q6 ?_
   refine rk 1 (.k (.d (.k (.i 26 (vi v5) .n)))) ?_
   refine cK h fun c7 h => ?_
   refine jo 27 (.bin .add false 26 (ki 1)) (r_addn (i := v5) (j := 1) rfl rfl c7) ?_
   refine jk 1 (.d (.k2 (.i 6 (vi ((v5 + 1 : Nat) : Int)) .n))) ?_
   exact Vs.intro (sc [2] (by decide) (by kernel_rfl) (obRen_row vt_frz rfl .nil) rfl rfl) ⟨((v4 ++ ([(ix a0 v5).Name] : List Str)), v5 + 1), rfl, h⟩
  refine q5 ?_
  exact Vs.intro sy ⟨v4, rfl, h⟩
 intro k1 h
 refine sk (.k (.i 3 (vi 0) .n)) ?_
 refine q4 ?_
 refine ts (.k (.i 3 (vi 0) .n)) ?_
 refine TriE.loopN h (fun (v2 : Nat) => St.mk [(0, eS 6 eTask a0), (3, vi v2)] []) rfl ?_
 clear h
 rintro back v2 h
 dsimp only [agrafferef08_CheckTasks_L1] at h
 refine q1 ?_
 refine sj ?_
 refine rk 2 (.k2 (.i 10 (vi v2) (.i 11 (eS 6 eTask a0) .n))) ?_
 refine jo 12 (.len 0 11) (ok_len_m rfl) ?_
 refine jo 13 (.bin .lss false 10 12) (n_lss (i := v2) (j := a0.length) rfl rfl) ?_
 refine jf (.d2 (.k2 (.i 13 (vb (decide (v2 < a0.length))) .n))) ?_
 refine tc h (fun c2 h => ?_) (fun c2 h => ?_)
 ·refine q2 ?_
  refine q7 ?_
  refine sj ?_
  refine rk 2 (.k2 (.i 16 (eS 6 eTask a0) (.i 17 (vi v2) .n))) ?_
  refine bK h fun y3 hy3 h => ?_
  refine jc 18 [16, 17] (agrafferef08_task_ok n a0 (v2 : Int) y3 hy3) ?_
  refine jk 1 (.d (.k2 (.i 4 (vi y3) .n))) ?_
  refine sk (.k3 (.i 20 (vb (y3 != (0 : Int))) .n)) ?_
  refine tc h (fun c3 h => ?_) (fun c3 h => ?_)
  ·refine sk (.i 2 (vi y3) .n) ?_
   refine q3 ?_
   have h := si h
   subst h
   exact DoneS.ret Sees.refl rfl rfl
  refine q2 ?_
  refine q6 ?_
  refine rk 1 (.k (.i 14 (vi v2) .n)) ?_
  refine cK h fun c4 h => ?_
  refine jo 15 (.bin .add false 14 (ki 1)) (r_addn (i := v2) (j := 1) rfl rfl c4) ?_
  refine jk 1 (.d (.k (.i 3 (vi ((v2 + 1 : Nat) : Int)) .n))) ?_
  exact Vs.intro sy ⟨(v2 + 1), rfl, h⟩
 refine q5 ?_
 exact Vs.intro sy ⟨(), rfl, h⟩
theorem strings_Lines_ok (n : Nat) (a0 : Str) (r : Unit) (h : strings_Lines n a0 = some r) : FnL Tryz.prog 64 [vt a0] [] (.fn (.func 117) [] [.ptr 0 0 0]) [some (.row 1 [vt a0])] := by
 dsimp only [strings_Lines] at h
 refine fo [2] Tryz.call64 Tryz.func64 rfl ?_
 refine sko (.i 1 (.ptr 0 0 0) .n) [some (.row 1 [vt a0])] ?_
 refine sk (.i 2 (.fn (.func 117) [] [.ptr 0 0 0]) .n) ?_
 refine q3 ?_
 have h := si h
 subst h
 exact DoneS.ret Sees.refl rfl rfl
theorem internal_stringslite_HasSuffix_ok (n : Nat) (a0 : Str) (a1 : Str) (r : Unit) (h : internal_stringslite_HasSuffix n a0 a1 = some r) : FnL Tryz.prog 168 [vt a0, vt a1] [] (vb ((decide (a1.length ≤ a0.length)) && ((List.drop (((a0.length : Int) - (a1.length : Int)).toNat) a0) == a1))) [] := by
 dsimp only [internal_stringslite_HasSuffix] at h
 refine fo [4] Tryz.call168 Tryz.func168 rfl ?_
 refine sk .a ?_
 refine sj ?_
 refine rk 1 (.k2 (.i 5 (vt a0) .n)) ?_
 refine jo 6 (.len 1 5) (ok_len_t rfl) ?_
 refine rk 1 (.d (.k2 (.i 6 (vi (a0.length : Int)) (.i 7 (vt a1) .n)))) ?_
 refine jo 8 (.len 1 7) (ok_len_t rfl) ?_
 refine jo 9 (.bin .geq false 6 8) (n_geq (i := a0.length) (j := a1.length) rfl rfl) ?_
 refine rk 1 (.d2 (.k2 (.i 10 (vb (decide (a1.length ≤ a0.length))) .n))) ?_
 refine gj (vt a0) 11 (.mov 0) 10 true rfl ?_
 refine gj (vt a0) 12 (.mov 0) 10 true rfl ?_
 refine gv 13 (.len 1 12) 10 true rfl (fun hg => (ok_len_t rfl)) (fun hg => (.cons hg .nil)) ?_
 refine gj (vt a1) 14 (.mov 1) 10 true rfl ?_
 refine gv 15 (.len 1 14) 10 true rfl (fun hg => (ok_len_t rfl)) (fun hg => (.cons hg .nil)) ?_
 refine cK h fun c1 h => ?_
 refine gv 16 (.bin .sub false 13 15) 10 true rfl (fun hg => (r_sub rfl rfl (gor c1 hg))) (fun hg => (.cons hg (.cons hg .nil))) ?_
 refine cK h fun c2 h => ?_
 refine gv 17 (.sslc 11 (some 16) none) 10 true rfl (fun hg => (ok_sslc_lo (j := ((a0.length : Int) - (a1.length : Int)).toNat) rfl rfl (inC_to (gor c2 hg)) (inC_le (gor c2 hg)))) (fun hg => (.cons hg (.cons hg .nil))) ?_
 refine gj (vt a1) 18 (.mov 1) 10 true rfl ?_
 refine gk (vb ((List.drop (((a0.length : Int) - (a1.length : Int)).toNat) a0) == a1)) 19 (.bin .eql false 17 18) 10 true rfl (fun hg => (.cons hg (.cons hg .nil))) ?_
 refine pa 20 10 19 rfl rfl ?_
 refine jk 1 (.i 4 (vb ((decide (a1.length ≤ a0.length)) && ((List.drop (((a0.length : Int) - (a1.length : Int)).toNat) a0) == a1))) .n) ?_
 refine q3 ?_
 have h := si h
 subst h
 exact DoneS.ret Sees.refl rfl rfl
theorem internal_stringslite_CutSuffix_ok (n : Nat) (a0 : Str) (a1 : Str) (r : Str × Bool) (h : internal_stringslite_CutSuffix n a0 a1 = some r) : FnL Tryz.prog 119 [vt a0, vt a1] [] (.tup [vt r.1, vb r.2]) [] := by
 dsimp only [internal_stringslite_CutSuffix] at h
 refine fo [4, 5] Tryz.call119 Tryz.func119 rfl ?_
 refine sk .a ?_
 refine q1 ?_
 refine sj ?_
 refine rk 2 (.k2 (.i 6 (vt a0) (.i 7 (vt a1) .n))) ?_
 refine bK h fun y1 hy1 h => ?_
 refine jc 8 [6, 7] (internal_stringslite_HasSuffix_ok n a0 a1 y1 hy1) ?_
 refine jk 1 (.d (.k2 (.i 9 (vb (!((decide (a1.length ≤ a0.length)) && ((List.drop (((a0.length : Int) - (a1.length : Int)).toNat) a0) == a1)))) .n))) ?_
 refine tc h (fun c1 h => ?_) (fun c1 h => ?_)
 ·refine sk (.i 4 (vt a0) (.i 5 (vb false) .n)) ?_
  refine q3 ?_
  have h := si h
  subst h
  exact DoneS.ret Sees.refl rfl rfl
 refine q2 ?_
 refine sj ?_
 refine rk 2 (.d (.k (.i 11 (vt a0) (.i 12 (vt a0) .n)))) ?_
 refine jo 13 (.len 1 12) (ok_len_t rfl) ?_
 refine rk 1 (.d2 (.k (.i 13 (vi (a0.length : Int)) (.i 14 (vt a1) .n)))) ?_
 refine jo 15 (.len 1 14) (ok_len_t rfl) ?_
 refine cK h fun c2 h => ?_
 refine jo 16 (.bin .sub false 13 15) (r_sub rfl rfl c2) ?_
 refine cK h fun c3 h => ?_
 refine jo 17 (.sslc 11 none (some 16)) (ok_sslc_hi (j := ((a0.length : Int) - (a1.length : Int)).toNat) rfl rfl (inC_to c3) (inC_le c3)) ?_
 refine jk 2 (.i 4 (vt (List.take (((a0.length : Int) - (a1.length : Int)).toNat) a0)) (.i 5 (vb true) .n)) ?_
 refine q3 ?_
 have h := si h
 subst h
 exact DoneS.ret Sees.refl rfl rfl
theorem strings_CutSuffix_ok (n : Nat) (a0 : Str) (a1 : Str) (r : Str × Bool) (h : strings_CutSuffix n a0 a1 = some r) : FnL Tryz.prog 65 [vt a0, vt a1] [] (.tup [vt r.1, vb r.2]) [] := by
 dsimp only [strings_CutSuffix] at h
 refine fo [4, 5] Tryz.call65 Tryz.func65 rfl ?_
 refine sk .a ?_
 refine sj ?_
 refine rk 2 (.i 6 (vt a0) (.i 7 (vt a1) .n)) ?_
 refine bK h fun y1 hy1 h => ?_
 refine jc 8 [6, 7] (internal_stringslite_CutSuffix_ok n a0 a1 y1 hy1) ?_
 refine jk 4 (.i 4 (vt y1.1) (.i 5 (vb y1.2) .n)) ?_
 refine q3 ?_
 have h := si h
 subst h
 exact DoneS.ret Sees.refl rfl rfl
theorem strings_Split_ok (n : Nat) (a0 : Str) (a1 : Str) (r : List Str) (h : strings_Split n a0 a1 = some r) : FnL Tryz.prog 39 [vt a0, vt a1] [] (eS 1 vt r) [] := by
 refine cK h fun c h => ?_
 match a1, h with
 | [_], h => cases h; exact split_call c
theorem strconv_Atoi_ok (n : Nat) (a0 : Str) (r : (Int × Bool)) (h : strconv_Atoi n a0 = some r) : FnL Tryz.prog 92 [vt a0] [] (.tup [vi r.1, errV 253 r.2]) [] := by
 refine cK h fun c h => ?_
 cases h
 exact atoi_call c
theorem internal_stringslite_HasPrefix_ok (n : Nat) (a0 : Str) (a1 : Str) (r : Unit) (h : internal_stringslite_HasPrefix n a0 a1 = some r) : FnL Tryz.prog 191 [vt a0, vt a1] [] (vb ((decide (a1.length ≤ a0.length)) && ((List.take a1.length a0) == a1))) [] := by
 dsimp only [internal_stringslite_HasPrefix] at h
 refine fo [4] Tryz.call191 Tryz.func191 rfl ?_
 refine sk .a ?_
 refine sj ?_
 refine rk 1 (.k2 (.i 5 (vt a0) .n)) ?_
 refine jo 6 (.len 1 5) (ok_len_t rfl) ?_
 refine rk 1 (.d (.k2 (.i 6 (vi (a0.length : Int)) (.i 7 (vt a1) .n)))) ?_
 refine jo 8 (.len 1 7) (ok_len_t rfl) ?_
 refine jo 9 (.bin .geq false 6 8) (n_geq (i := a0.length) (j := a1.length) rfl rfl) ?_
 refine rk 1 (.d2 (.k2 (.i 10 (vb (decide (a1.length ≤ a0.length))) .n))) ?_
 refine gj (vt a0) 11 (.mov 0) 10 true rfl ?_
 refine gj (vt a1) 12 (.mov 1) 10 true rfl ?_
 refine gv 13 (.len 1 12) 10 true rfl (fun hg => (ok_len_t rfl)) (fun hg => (.cons hg .nil)) ?_
 refine gv 14 (.sslc 11 none (some 13)) 10 true rfl (fun hg => (ok_sslc_hi (j := a1.length) rfl rfl rfl hg)) (fun hg => (.cons hg (.cons hg .nil))) ?_
 refine gj (vt a1) 15 (.mov 1) 10 true rfl ?_
 refine gk (vb ((List.take a1.length a0) == a1)) 16 (.bin .eql false 14 15) 10 true rfl (fun hg => (.cons hg (.cons hg .nil))) ?_
 refine pa 17 10 16 rfl rfl ?_
 refine jk 1 (.i 4 (vb ((decide (a1.length ≤ a0.length)) && ((List.take a1.length a0) == a1))) .n) ?_
 refine q3 ?_
 have h := si h
 subst h
 exact DoneS.ret Sees.refl rfl rfl
theorem internal_stringslite_TrimPrefix_ok (n : Nat) (a0 : Str) (a1 : Str) (r : Str) (h : internal_stringslite_TrimPrefix n a0 a1 = some r) : FnL Tryz.prog 140 [vt a0, vt a1] [] (vt r) [] := by
 dsimp only [internal_stringslite_TrimPrefix] at h
 refine fo [4] Tryz.call140 Tryz.func140 rfl ?_
 refine sk .a ?_
 refine q1 ?_
 refine sj ?_
 refine rk 2 (.k2 (.i 5 (vt a0) (.i 6 (vt a1) .n))) ?_
 refine bK h fun y1 hy1 h => ?_
 refine jc 7 [5, 6] (internal_stringslite_HasPrefix_ok n a0 a1 y1 hy1) ?_
 refine jf (.d (.k2 (.i 7 (vb ((decide (a1.length ≤ a0.length)) && ((List.take a1.length a0) == a1))) .n))) ?_
 refine tc h (fun c1 h => ?_) (fun c1 h => ?_)
 ·refine sj ?_
  refine rk 2 (.i 8 (vt a0) (.i 9 (vt a1) .n)) ?_
  refine jo 10 (.len 1 9) (ok_len_t rfl) ?_
  refine cK h fun c2 h => ?_
  refine jo 11 (.sslc 8 (some 10) none) (ok_sslc_lo (j := a1.length) rfl rfl rfl c2) ?_
  refine jk 1 (.i 4 (vt (List.drop a1.length a0)) .n) ?_
  refine q3 ?_
  have h := si h
  subst h
  exact DoneS.ret Sees.refl rfl rfl
 refine q2 ?_
 refine sk (.i 4 (vt a0) .n) ?_
 refine q3 ?_
 have h := si h
 subst h
 exact DoneS.ret Sees.refl rfl rfl
theorem strings_TrimPrefix_ok (n : Nat) (a0 : Str) (a1 : Str) (r : Str) (h : strings_TrimPrefix n a0 a1 = some r) : FnL Tryz.prog 93 [vt a0, vt a1] [] (vt r) [] := by
 dsimp only [strings_TrimPrefix] at h
 refine fo [4] Tryz.call93 Tryz.func93 rfl ?_
 refine sk .a ?_
 refine sj ?_
 refine rk 2 (.i 5 (vt a0) (.i 6 (vt a1) .n)) ?_
 refine bK h fun y1 hy1 h => ?_
 refine jc 7 [5, 6] (internal_stringslite_TrimPrefix_ok n a0 a1 y1 hy1) ?_
 refine jk 1 (.i 4 (vt y1) .n) ?_
 refine q3 ?_
 have h := si h
 subst h
 exact DoneS.ret Sees.refl rfl rfl
theorem restore_number_ok (n : Nat) (a0 : Str) (a1 : Int) (r : Int × Bool) (h : restore_number n a0 a1 = some r) : FnL Tryz.prog 40 [vt a0, vi a1] [] (.tup [vi r.1, vb r.2]) [] := by
 dsimp only [restore_number] at h
 refine fo [4, 5] Tryz.call40 Tryz.func40 rfl ?_
 refine sk .a ?_
 refine sj ?_
 refine rk 1 (.k2 (.i 9 (vt a0) .n)) ?_
 refine bK h fun y1 hy1 h => ?_
 refine jc 10 [9] (strconv_Atoi_ok n a0 y1 hy1) ?_ (by generalize y1.2 = b; cases b <;> rfl)
 refine rk 4 (.d (.k2 (.i 12 (errV 253 y1.2) (.i 6 (vi y1.1) .n)))) ?_
 refine RegJ.op (Op1.val (v := errV 253 y1.2) _ _ (cy (I0 7 (.mov 12))) rfl (ok_mov (tau_err (T := 253) (b := y1.2) (by kernel_rfl))) (.cons (xcond_err (T := 253) (b := y1.2) (by kernel_rfl)) .nil)) ?_
 refine jf (.d (.k2 (.d (.k (.i 7 (errV 253 y1.2) .n))))) ?_
 refine sj ?_
 refine rk 1 (.k4 (.i 13 (vi y1.1) .n)) ?_
 refine RegJ.op (Op1.val (v := errV 253 y1.2) _ _ (cy (I0 14 (.mov 7))) rfl (ok_mov (tau_err (T := 253) (b := y1.2) (by kernel_rfl))) (.cons (xcond_err (T := 253) (b := y1.2) (by kernel_rfl)) .nil)) ?_
 refine RegJ.op (Op1.err (T := 253) (b := y1.2) false (cy (I0 15 (.bin .eql false 14 (.c (.p .nilIface))))) (by kernel_rfl) rfl (tau_err (by kernel_rfl)) (.cons (xcond_err (T := 253) (b := y1.2) (by kernel_rfl)) (.cons rfl .nil))) ?_
 refine rn 1 [(0, vt a0), (1, vi a1), (6, vi y1.1), (13, vi y1.1), (16, vb y1.2)] [] ?_
 refine gj (vi y1.1) 17 (.mov 6) 16 true rfl ?_
 refine bK h fun y2 hy2 h => ?_
 refine gc 18 [17] 16 true rfl (fun hg => strconv_Itoa_ok n y1.1 y2 (gcall_some hy2 hg)) (fun hg => (.cons rfl (.cons hg .nil))) (fun hg => by kernel_rfl) ?_
 refine gj (vt a0) 19 (.mov 0) 16 true rfl ?_
 refine gk (vb (y2 == a0)) 20 (.bin .eql false 18 19) 16 true rfl (fun hg => (.cons hg (.cons hg .nil))) ?_
 refine pa 21 16 20 rfl rfl ?_
 refine rk 1 (.d4 (.d (.k2 (.d (.k (.i 22 (vb (y1.2 && (y2 == a0))) .n)))))) ?_
 refine gj (vt a0) 23 (.mov 0) 22 true rfl ?_
 refine bK h fun y3 hy3 h => ?_
 refine gc 24 [23, (.c (.p (.string ⟨#[45]⟩)))] 22 true rfl (fun hg => strings_TrimPrefix_ok n a0 ([45] : Str) y3 (gcall_some hy3 hg)) (fun hg => (.cons rfl (.cons hg (.cons rfl .nil)))) (fun hg => by kernel_rfl) ?_
 refine gv 25 (.len 1 24) 22 true rfl (fun hg => (ok_len_t rfl)) (fun hg => (.cons hg .nil)) ?_
 refine gj (vi a1) 26 (.mov 1) 22 true rfl ?_
 refine gk (vb (decide ((y3.length : Int) ≤ a1))) 27 (.bin .leq false 25 26) 22 true rfl (fun hg => (.cons hg (.cons hg .nil))) ?_
 refine pa 28 22 27 rfl rfl ?_
 refine jk 2 (.i 4 (vi y1.1) (.i 5 (vb ((y1.2 && (y2 == a0)) && (decide ((y3.length : Int) ≤ a1)))) .n)) ?_
 refine q3 ?_
 have h := si h
 subst h
 exact DoneS.ret Sees.refl rfl rfl
end Go.Proofs.YtchkkpbkgghcoaaGreatDoor.As
