/- The code computes what the plain functions say, part 1: no condition. -/
import Derived.Test.YtcdcpambkdlhjaaPlain1
import Derived.Test.YtcdcpambkdlhjaaProg
namespace Go.Proofs.Ytcdcpambkdlhjaa.As
open Go Go.Proofs
set_option maxRecDepth 4000
def keepT : List (Nat × List Nat) := [(4, [0, 1, 2, 3, 4, 5, 6, 7]), (5, [0, 1, 2, 3, 4, 5, 6, 8, 9, 10, 11, 12, 13, 15, 16, 20, 24, 28, 31, 35, 36, 37, 38, 52, 53, 54, 55, 83, 84, 85, 86]), (8, [0, 1, 4, 5, 10, 14, 25]), (10, [0, 1, 2, 6, 7, 8, 9, 10, 11, 12, 13, 15, 16, 17, 19, 20, 22, 23, 24, 25, 26, 27, 28, 29, 30, 34, 39, 46, 50, 51, 52, 53, 63, 77, 78, 79, 80, 81, 85, 86, 87, 88, 127, 128, 129, 140, 144, 145, 146, 147, 155, 180]), (11, [0]), (12, [0]), (13, [0, 1, 4, 5, 6, 7, 8, 10, 11, 12, 17, 21, 22, 23, 24, 28, 29, 30, 35]), (14, [0, 1, 4, 5, 10, 14, 25]), (15, [0, 1, 4, 5, 10, 14, 26]), (16, [0, 1, 2, 6]), (17, [0, 1, 4]), (18, [0, 2]), (19, [0, 2, 3, 4, 7, 15]), (20, [0, 1]), (21, [0, 1, 2, 3, 4, 7]), (22, [0, 1, 4, 5, 6, 11, 12, 13, 16, 19]), (24, [0, 2, 3, 4, 7, 9, 10, 11, 17, 25]), (25, [0, 2, 3, 4, 7, 8, 9, 10, 11, 15, 20, 28]), (26, [0, 1, 4, 6, 7, 8, 9, 10, 11, 17, 22, 34]), (27, [0, 1, 2, 4, 5, 6, 8, 9, 13, 14, 15, 16, 24]), (28, [0, 1, 4, 5, 7, 8, 9, 10, 11]), (29, [0, 1, 3, 4, 5, 10, 11, 12, 18, 39]), (30, [0, 1, 4, 5, 6, 7, 8, 9, 10, 11, 19]), (31, [0, 2, 3, 5, 6, 7, 8, 9, 14]), (32, [0, 1, 4, 5, 6, 7, 8, 9, 10, 11, 12, 19, 28, 35]), (33, [0, 1, 4, 5, 6, 8, 13, 17, 18, 19, 20, 21, 39]), (34, [0, 2, 4]), (35, [0, 1, 4, 5, 7, 8, 9, 16]), (36, [0, 1, 2, 3]), (37, [0, 1, 4, 5, 7, 8, 9, 16]), (38, [0, 1, 2, 6, 7, 8, 9, 13, 30, 35, 54]), (39, [0, 2]), (40, [0, 1, 4, 5, 6, 7, 9, 10, 15, 20, 27, 38, 66, 69, 70, 71, 72, 77, 82]), (41, [0, 1, 3, 4, 5, 6, 7, 13]), (42, [2]), (43, [0, 2, 3, 4, 5, 7, 8, 9, 10, 45]), (44, [0, 1, 3, 4]), (45, [0, 1, 3, 4]), (46, [0, 1, 4]), (47, [0, 1, 3]), (48, [0, 2]), (49, [0, 1, 4, 5, 6, 11, 12, 13, 16, 19]), (50, [0, 1, 2, 12]), (51, [0, 1, 2, 3, 8, 9, 11, 12, 13, 17, 19, 20, 21, 22, 30, 34, 42]), (52, [0, 1, 2]), (53, [0, 1, 2, 3, 8, 9, 14, 34]), (54, [0, 1, 2, 3, 4, 10, 11, 12, 13, 14, 15, 16, 17, 18, 19, 20, 21, 22, 23, 24, 28, 33, 50, 58, 80, 85, 103, 110, 140, 151, 171, 185, 199, 213]), (55, [0, 2]), (56, [0, 1, 4]), (57, [0, 1, 4, 5, 6, 7, 8, 9, 10, 14, 19]), (58, [0, 1, 4, 5, 6, 7, 8, 9, 10, 14, 19, 25]), (59, [0, 1, 2, 4]), (60, [0, 1, 4]), (61, [0, 1, 4, 5, 7, 8, 9, 16]), (62, [0, 1, 2, 3]), (63, [0, 1, 4]), (64, [0, 1, 2]), (65, [0, 1, 4, 5, 7, 8, 9, 16]), (66, [0, 1, 2, 3]), (67, [0, 1, 2, 3]), (68, [0, 1, 4, 5, 7, 8, 9, 16]), (69, [0, 1, 2, 3, 8, 9, 10, 11, 12, 13, 14, 15, 16, 17, 18, 23, 29, 35, 50, 68, 72, 87, 113]), (70, [0, 2]), (71, [0, 2]), (72, [0, 1, 2, 3, 4, 10, 11, 20, 23]), (73, [0, 1, 4, 5, 7, 8, 9, 16]), (74, [0, 1, 4]), (75, [0, 1, 2, 3]), (76, [0, 1, 4, 5, 7, 8, 9, 16]), (77, [0, 1, 4, 5, 7, 8, 9, 16]), (78, [0, 2, 3, 5, 6, 8, 9, 10, 11, 12, 20, 25, 26, 27, 28]), (79, [0, 1, 2, 6, 7, 12, 30]), (80, [0, 1, 2, 6, 7, 8, 9, 10, 19, 30]), (81, [0, 1, 2, 6, 7, 8, 9, 10, 15, 33, 43]), (82, [0, 1, 2, 6, 7, 8, 9, 10, 11, 12, 32, 34, 49, 51, 54]), (83, [0, 1, 2, 6, 7, 13]), (84, [0, 1, 2, 6, 7, 8, 9, 10, 14, 32, 37, 41, 61, 65, 78, 98, 103, 116]), (85, [0, 1, 4]), (86, [0, 1, 2, 3, 8, 9, 10, 43, 59, 64]), (87, [0, 1, 2, 3, 8, 9, 10, 11, 43, 60, 65, 112, 129, 134]), (88, [0, 2, 4, 8]), (89, [0, 2, 4, 8, 14]), (90, [0, 1, 2, 3, 10, 13]), (91, [0, 1, 4, 5, 7, 8, 9, 16]), (92, [0, 1, 4, 6, 16]), (93, [0, 1, 2, 3, 8, 9, 16, 36, 52]), (94, [0, 2]), (95, [0, 2]), (96, [0, 1, 2, 6]), (97, [0, 1, 2, 3, 4, 10]), (98, [0, 1, 2, 3, 8, 9, 18])]
def keepOf (f : Nat) : List Nat := match keepT.find? (fun p => Nat.beq p.1 f) with
  | some p => p.2
  | none => []
theorem closed_ok : FnL Try.prog 4 [] [] (vb true) [] := funE_sound (by kernel_rfl) 200 false 4 [] [] _ _ (by kernel_rfl : funE Try.prog keepOf 1000 200 false 4 [] [] = some (vb true, []))
theorem agraffelaw08_awake_ok (n : Nat) (r : Bool) (h : agraffelaw08_awake n = some r) : FnL Try.prog 4 [] [] (vb r) [] := by
  cases h
  exact closed_ok
theorem agraffebase_CopyInts_ok (n : Nat) (a0 : List Int) (r : Unit) (h : agraffebase_CopyInts n a0 = some r) : FnL Try.prog 6 [eS 1 vi a0] [] (.own 0 0 a0.length) [some (.row 1 (List.map vi a0))] := by
  dsimp only [agraffebase_CopyInts] at h
  refine FnL.ofS (ts := [2]) Try.call6 Try.func6 rfl rfl (Nat.le_of_ble_eq_true rfl) (Nat.le_of_ble_eq_true rfl) (fun j h => absurd h (Nat.not_lt_zero j)) ?_
  refine sr [(0, eS 1 vi a0)] [] ?_
  refine sj ?_
  refine rn 2 [(3, .emp), (4, eS 1 vi a0)] [] ?_
  obtain ⟨c1, h⟩ := chk_some h
  refine je (.own 0 0 a0.length) [some (.row 1 (List.map vi a0))] (cy (I0 5 (.app 1 8 (.t 3) (.t 4)))) (ok_app_emp (e := vi) (l := a0) (u := eS 1 vi a0) rfl rfl els_sl c1) rfl rfl rfl ?_
  refine jq 1 [(2, .own 0 0 a0.length)] [some (.row 1 (List.map vi a0))] ?_
  refine TriE.ret ?_
  have h := Option.some.inj h
  subst h
  exact DoneS.ret (S' := ⟨[(2, .own 0 0 a0.length)], [some (.row 1 (List.map vi a0))]⟩) Sees.refl rfl rfl
theorem restore_within_ok (n : Nat) (a0 : Int) (a1 : Int) (a2 : Int) (r : Unit) (h : restore_within n a0 a1 a2 = some r) : FnL Try.prog 16 [vi a0, vi a1, vi a2] [] (vb ((decide (a1 ≤ a0)) && (decide (a0 ≤ a2)))) [] := by
  dsimp only [restore_within] at h
  refine FnL.ofS (ts := [6]) Try.call16 Try.func16 rfl rfl (Nat.le_of_ble_eq_true rfl) (Nat.le_of_ble_eq_true rfl) (fun j h => absurd h (Nat.not_lt_zero j)) ?_
  refine sr [(0, vi a0), (1, vi a1), (2, vi a2)] [] ?_
  refine sj ?_
  refine rn 4 [(0, vi a0), (2, vi a2), (10, vb (decide (a1 ≤ a0)))] [] ?_
  refine RegJ.op (Op1.valk (v := vi a0) _ _ (cy (IG 11 (.mov (.t 0)) 10 true)) rfl (by kernel_rfl) (fun hg => (.cons rfl .nil))) ?_
  refine RegJ.op (Op1.valk (v := vi a2) _ _ (cy (IG 12 (.mov (.t 2)) 10 true)) rfl (by kernel_rfl) (fun hg => (.cons rfl .nil))) ?_
  refine RegJ.op (Op1.valk (v := vb (decide (a0 ≤ a2))) _ _ (cy (IG 13 (.bin .leq false (.t 11) (.t 12)) 10 true)) rfl (by kernel_rfl) (fun hg => (.cons hg (.cons hg .nil)))) ?_
  refine RegJ.op (Op1.and (cy (I0 14 (.pick (.t 10) (.t 13) (.c (.p (.bool false)))))) rfl rfl (by first | exact hokA1 | exact hokA0 | simp)) ?_
  refine jq 1 [(6, vb ((decide (a1 ≤ a0)) && (decide (a0 ≤ a2))))] [] ?_
  refine TriE.ret ?_
  have h := Option.some.inj h
  subst h
  exact DoneS.ret (S' := ⟨[(6, vb ((decide (a1 ≤ a0)) && (decide (a0 ≤ a2))))], []⟩) Sees.refl rfl rfl
theorem restore_Split_f1_ok (n : Nat) (a0 : Int) (r : Unit) (h : restore_Split_f1 n a0 = some r) : FnL Try.prog 18 [vi a0] [] (vb (!((decide (0 ≤ a0)) && (decide (a0 ≤ 1000000))))) [] := by
  dsimp only [restore_Split_f1] at h
  refine FnL.ofS (ts := [2]) Try.call18 Try.func18 rfl rfl (Nat.le_of_ble_eq_true rfl) (Nat.le_of_ble_eq_true rfl) (fun j h => absurd h (Nat.not_lt_zero j)) ?_
  refine sr [(0, vi a0)] [] ?_
  refine sj ?_
  refine rn 1 [(3, vi a0)] [] ?_
  obtain ⟨y1, hy1, h⟩ := bind_some h
  refine RegJ.op (Op1.call (y' := vb ((decide (0 ≤ a0)) && (decide (a0 ≤ 1000000)))) (obx := []) (oby := []) (ob2 := []) _ _ (cy (I0 4 (.call 16 [(.t 3), (.c (.p (.int .i64 0))), (.c (.p (.int .i64 1000000)))]))) rfl (restore_within_ok n a0 0 1000000 y1 hy1) [] (by kernel_rfl) (.cons rfl (.cons rfl (.cons rfl (.cons rfl .nil)))) (by kernel_rfl) (by kernel_rfl) ObsRen.nil (by kernel_rfl) ObsRen.nil (by kernel_rfl)) ?_
  refine jq 2 [(2, vb (!((decide (0 ≤ a0)) && (decide (a0 ≤ 1000000)))))] [] ?_
  refine TriE.ret ?_
  have h := Option.some.inj h
  subst h
  exact DoneS.ret (S' := ⟨[(2, vb (!((decide (0 ≤ a0)) && (decide (a0 ≤ 1000000)))))], []⟩) Sees.refl rfl rfl
theorem slices_IndexFunc_int_ok (n : Nat) (a0 : List Int) (r : Int) (h : slices_IndexFunc_int n a0 = some r) : FnL Try.prog 37 [eS 1 vi a0, .fn (.func 18) [] []] [] (vi r) [] := by
  dsimp only [slices_IndexFunc_int] at h
  refine FnL.ofS (ts := [4]) Try.call37 Try.func37 rfl rfl (Nat.le_of_ble_eq_true rfl) (Nat.le_of_ble_eq_true rfl) (fun j h => absurd h (Nat.not_lt_zero j)) ?_
  refine sr [(0, eS 1 vi a0), (1, .fn (.func 18) [] [])] [] ?_
  refine TriE.seqK h (fun (_ : Unit) => St.mk [] []) ?_ ?_
  · rintro ⟨⟩ h
    refine sr [(4, vi (-1))] [] ?_
    refine TriE.ret ?_
    have h := Option.some.inj h
    subst h
    exact DoneS.ret (S' := ⟨[(4, vi (-1))], []⟩) Sees.refl rfl rfl
  intro k1 h
  refine sj ?_
  refine rn 1 [(0, eS 1 vi a0), (1, .fn (.func 18) [] []), (6, eS 1 vi a0)] [] ?_
  refine jv (vi (a0.length : Int)) (cy (I0 7 (.len 0 (.t 6)))) (ok_len_m rfl) rfl ?_
  refine jq 1 [(0, eS 1 vi a0), (1, .fn (.func 18) [] []), (7, vi (a0.length : Int)), (8, vi 0)] [] ?_
  refine TriE.block ?_
  refine TriE.sees (S' := ⟨[(0, eS 1 vi a0), (1, .fn (.func 18) [] []), (7, vi (a0.length : Int)), (8, vi 0)], []⟩) sy ?_
  refine TriE.loopN h (fun (v2 : Nat) => St.mk [(0, eS 1 vi a0), (1, .fn (.func 18) [] []), (7, vi (a0.length : Int)), (8, vi v2)] []) rfl ?_
  clear h
  rintro back v2 h
  dsimp only [slices_IndexFunc_int_L1] at h
  refine sj ?_
  refine jv (vb (decide (v2 < a0.length))) (cy (I0 9 (.bin .lss false (.t 8) (.t 7)))) (n_lss (i := v2) (j := a0.length) rfl rfl) rfl ?_
  refine jp [(0, eS 1 vi a0), (1, .fn (.func 18) [] []), (7, vi (a0.length : Int)), (8, vi v2), (9, vb (decide (v2 < a0.length)))] ?_
  refine TriE.seq ?_
  refine TriE.cond (b := decide (v2 < a0.length)) rfl (fun c1 => ?_) (fun c1 => ?_)
  · have h := cond_t h c1
    refine TriE.skip ?_
    refine TriE.seq ?_
    refine TriE.block ?_
    refine sr [(0, eS 1 vi a0), (1, .fn (.func 18) [] []), (7, vi (a0.length : Int)), (8, vi v2), (5, vi v2)] [] ?_
    refine sj ?_
    refine rn 3 [(0, eS 1 vi a0), (1, .fn (.func 18) [] []), (7, vi (a0.length : Int)), (8, vi v2), (5, vi v2), (11, .fn (.func 18) [] []), (12, eS 1 vi a0), (13, vi v2)] [] ?_
    refine jv (.fptr 1 (List.map vi a0) v2 0) (cy (I0 14 (.iaddr 1 (.t 12) (.t 13)))) (ok_iaddr_m (j := v2) rfl rfl rfl c1) rfl ?_
    refine jv (vi (ix a0 v2)) (cy (I0 15 (.load false 1 (.t 14)))) (ok_load_fm (v := vi (ix a0 v2)) rfl c1 rfl) rfl ?_
    obtain ⟨y3, hy3, h⟩ := bind_some h
    refine RegJ.op (Op1.dyn (y' := vb (!((decide (0 ≤ (ix a0 v2))) && (decide ((ix a0 v2) ≤ 1000000))))) (obx := []) (oby := []) (ob2 := []) _ _ _ (cy (I0 16 (.dyn (.t 11) [(.t 15)]))) rfl rfl (restore_Split_f1_ok n (ix a0 v2) y3 hy3) [] (by kernel_rfl) (.cons rfl (.cons rfl .nil)) (by kernel_rfl) (by kernel_rfl) ObsRen.nil (by kernel_rfl) ObsRen.nil (by kernel_rfl)) ?_
    refine jp [(0, eS 1 vi a0), (1, .fn (.func 18) [] []), (7, vi (a0.length : Int)), (8, vi v2), (5, vi v2), (16, vb (!((decide (0 ≤ (ix a0 v2))) && (decide ((ix a0 v2) ≤ 1000000)))))] ?_
    refine TriE.cond (b := !((decide (0 ≤ (ix a0 v2))) && (decide ((ix a0 v2) ≤ 1000000)))) rfl (fun c2 => ?_) (fun c2 => ?_)
    · have h := cond_t h c2
      refine sr [(4, vi v2)] [] ?_
      refine TriE.ret ?_
      have h := Option.some.inj h
      subst h
      exact DoneS.ret (S' := ⟨[(4, vi v2)], []⟩) Sees.refl rfl rfl
    have h := cond_f h c2
    refine TriE.skip ?_
    refine TriE.regJ ?_
    obtain ⟨c3, h⟩ := chk_some h
    refine jv (vi ((v2 + 1 : Nat) : Int)) (cy (I0 18 (.bin .add false (.t 8) (.c (.p (.int .i64 1)))))) (r_addn (i := v2) (j := 1) rfl rfl c3) rfl ?_
    refine jq 1 [(0, eS 1 vi a0), (1, .fn (.func 18) [] []), (7, vi (a0.length : Int)), (8, vi ((v2 + 1 : Nat) : Int))] [] ?_
    exact Vs.intro sy ⟨(v2 + 1), rfl, h⟩
  have h := cond_f h c1
  refine TriE.exit ?_
  exact Vs.intro sy ⟨(), rfl, h⟩
theorem slices_ContainsFunc_int_ok (n : Nat) (a0 : List Int) (r : Bool) (h : slices_ContainsFunc_int n a0 = some r) : FnL Try.prog 17 [eS 1 vi a0, .fn (.func 18) [] []] [] (vb r) [] := by
  dsimp only [slices_ContainsFunc_int] at h
  refine FnL.ofS (ts := [4]) Try.call17 Try.func17 rfl rfl (Nat.le_of_ble_eq_true rfl) (Nat.le_of_ble_eq_true rfl) (fun j h => absurd h (Nat.not_lt_zero j)) ?_
  refine sr [(0, eS 1 vi a0), (1, .fn (.func 18) [] [])] [] ?_
  refine sj ?_
  refine rn 2 [(5, eS 1 vi a0), (6, .fn (.func 18) [] [])] [] ?_
  obtain ⟨y1, hy1, h⟩ := bind_some h
  refine RegJ.op (Op1.call (y' := vi y1) (obx := []) (oby := []) (ob2 := []) _ _ (cy (I0 7 (.call 37 [(.t 5), (.t 6)]))) rfl (slices_IndexFunc_int_ok n a0 y1 hy1) [] (by kernel_rfl) (.cons rfl (.cons rfl (.cons rfl .nil))) (by kernel_rfl) (by kernel_rfl) ObsRen.nil (by kernel_rfl) ObsRen.nil (by kernel_rfl)) ?_
  refine jq 2 [(4, vb (decide ((0 : Int) ≤ y1)))] [] ?_
  refine TriE.ret ?_
  have h := Option.some.inj h
  subst h
  exact DoneS.ret (S' := ⟨[(4, vb (decide ((0 : Int) ≤ y1)))], []⟩) Sees.refl rfl rfl
theorem slices_Max_int_ok (n : Nat) (a0 : List Int) (r : Int) (h : slices_Max_int n a0 = some r) : FnL Try.prog 19 [eS 1 vi a0] [] (vi r) [] := by
  dsimp only [slices_Max_int] at h
  refine FnL.ofS (ts := [2]) Try.call19 Try.func19 rfl rfl (Nat.le_of_ble_eq_true rfl) (Nat.le_of_ble_eq_true rfl) (fun j h => absurd h (Nat.not_lt_zero j)) ?_
  refine sr [(0, eS 1 vi a0)] [] ?_
  refine TriE.seq ?_
  refine sj ?_
  refine rn 1 [(0, eS 1 vi a0), (5, eS 1 vi a0)] [] ?_
  refine jv (vi (a0.length : Int)) (cy (I0 6 (.len 0 (.t 5)))) (ok_len_m rfl) rfl ?_
  refine jv (vb (decide (a0.length < 1))) (cy (I0 7 (.bin .lss false (.t 6) (.c (.p (.int .i64 1)))))) (n_lss (i := a0.length) (j := 1) rfl rfl) rfl ?_
  refine jp [(0, eS 1 vi a0), (7, vb (decide (a0.length < 1)))] ?_
  refine TriE.cond (b := decide (a0.length < 1)) rfl (fun c1 => ?_) (fun c1 => ?_)
  · have h := cond_t h c1
    refine TriE.regJ ?_
    cases h
  have h := cond_f h c1
  refine TriE.skip ?_
  refine sj ?_
  refine rn 1 [(0, eS 1 vi a0), (9, eS 1 vi a0)] [] ?_
  obtain ⟨c2, h⟩ := chk_some h
  refine jv (.fptr 1 (List.map vi a0) 0 0) (cy (I0 10 (.iaddr 1 (.t 9) (.c (.p (.int .i64 0)))))) (ok_iaddr_m (j := 0) rfl rfl rfl c2) rfl ?_
  refine jv (vi (ix a0 0)) (cy (I0 11 (.load false 1 (.t 10)))) (ok_load_fm (v := vi (ix a0 0)) rfl c2 rfl) rfl ?_
  refine jq 1 [(0, eS 1 vi a0), (3, vi (ix a0 0))] [] ?_
  refine TriE.seqK h (fun (v3 : Int) => St.mk [(3, vi v3)] []) ?_ ?_
  · rintro v3 h
    refine sr [(2, vi v3)] [] ?_
    refine TriE.ret ?_
    have h := Option.some.inj h
    subst h
    exact DoneS.ret (S' := ⟨[(2, vi v3)], []⟩) Sees.refl rfl rfl
  intro k1 h
  refine sr [(0, eS 1 vi a0), (3, vi (ix a0 0)), (4, vi 1)] [] ?_
  refine TriE.block ?_
  refine TriE.sees (S' := ⟨[(0, eS 1 vi a0), (3, vi (ix a0 0)), (4, vi 1)], []⟩) sy ?_
  refine TriE.loopN h (fun (t : Int × Nat) => match t with | (v1, v2) => St.mk [(0, eS 1 vi a0), (3, vi v1), (4, vi v2)] []) rfl ?_
  clear h
  rintro back ⟨v1, v2⟩ h
  dsimp only [slices_Max_int_L1] at h
  refine TriE.seq ?_
  refine sj ?_
  refine rn 2 [(0, eS 1 vi a0), (3, vi v1), (4, vi v2), (12, vi v2), (13, eS 1 vi a0)] [] ?_
  refine jv (vi (a0.length : Int)) (cy (I0 14 (.len 0 (.t 13)))) (ok_len_m rfl) rfl ?_
  refine jv (vb (decide (v2 < a0.length))) (cy (I0 15 (.bin .lss false (.t 12) (.t 14)))) (n_lss (i := v2) (j := a0.length) rfl rfl) rfl ?_
  refine jp [(0, eS 1 vi a0), (3, vi v1), (4, vi v2), (15, vb (decide (v2 < a0.length)))] ?_
  refine TriE.cond (b := decide (v2 < a0.length)) rfl (fun c3 => ?_) (fun c3 => ?_)
  · have h := cond_t h c3
    refine TriE.skip ?_
    refine TriE.seq ?_
    refine TriE.block ?_
    refine TriE.regJ ?_
    refine rn 3 [(0, eS 1 vi a0), (4, vi v2), (18, vi v1), (19, eS 1 vi a0), (20, vi v2)] [] ?_
    refine jv (.fptr 1 (List.map vi a0) v2 0) (cy (I0 21 (.iaddr 1 (.t 19) (.t 20)))) (ok_iaddr_m (j := v2) rfl rfl rfl c3) rfl ?_
    refine jv (vi (ix a0 v2)) (cy (I0 22 (.load false 1 (.t 21)))) (ok_load_fm (v := vi (ix a0 v2)) rfl c3 rfl) rfl ?_
    refine jq 2 [(0, eS 1 vi a0), (4, vi v2), (3, vi (iMax v1 (ix a0 v2)))] [] ?_
    refine TriE.regJ ?_
    refine rn 1 [(0, eS 1 vi a0), (3, vi (iMax v1 (ix a0 v2))), (16, vi v2)] [] ?_
    obtain ⟨c4, h⟩ := chk_some h
    refine jv (vi ((v2 + 1 : Nat) : Int)) (cy (I0 17 (.bin .add false (.t 16) (.c (.p (.int .i64 1)))))) (r_addn (i := v2) (j := 1) rfl rfl c4) rfl ?_
    refine jq 1 [(0, eS 1 vi a0), (3, vi (iMax v1 (ix a0 v2))), (4, vi ((v2 + 1 : Nat) : Int))] [] ?_
    exact Vs.intro sy ⟨(iMax v1 (ix a0 v2), v2 + 1), rfl, h⟩
  have h := cond_f h c3
  refine TriE.exit ?_
  exact Vs.intro sy ⟨v1, rfl, h⟩
theorem cmp_isNaN_int_ok (n : Nat) (a0 : Int) (r : Unit) (h : cmp_isNaN_int n a0 = some r) : FnL Try.prog 39 [vi a0] [] (vb (a0 != a0)) [] := by
  dsimp only [cmp_isNaN_int] at h
  refine FnL.ofS (ts := [2]) Try.call39 Try.func39 rfl rfl (Nat.le_of_ble_eq_true rfl) (Nat.le_of_ble_eq_true rfl) (fun j h => absurd h (Nat.not_lt_zero j)) ?_
  refine sr [(0, vi a0)] [] ?_
  refine sr [(2, vb (a0 != a0))] [] ?_
  refine TriE.ret ?_
  have h := Option.some.inj h
  subst h
  exact DoneS.ret (S' := ⟨[(2, vb (a0 != a0))], []⟩) Sees.refl rfl rfl
theorem cmp_Compare_int_ok (n : Nat) (a0 : Int) (a1 : Int) (r : Int) (h : cmp_Compare_int n a0 a1 = some r) : FnL Try.prog 22 [vi a0, vi a1] [] (vi r) [] := by
  dsimp only [cmp_Compare_int] at h
  refine FnL.ofS (ts := [4]) Try.call22 Try.func22 rfl rfl (Nat.le_of_ble_eq_true rfl) (Nat.le_of_ble_eq_true rfl) (fun j h => absurd h (Nat.not_lt_zero j)) ?_
  refine sr [(0, vi a0), (1, vi a1)] [] ?_
  refine sj ?_
  refine rn 1 [(0, vi a0), (1, vi a1), (7, vi a0)] [] ?_
  obtain ⟨y1, hy1, h⟩ := bind_some h
  refine RegJ.op (Op1.call (y' := vb (a0 != a0)) (obx := []) (oby := []) (ob2 := []) _ _ (cy (I0 8 (.call 39 [(.t 7)]))) rfl (cmp_isNaN_int_ok n a0 y1 hy1) [] (by kernel_rfl) (.cons rfl (.cons rfl .nil)) (by kernel_rfl) (by kernel_rfl) ObsRen.nil (by kernel_rfl) ObsRen.nil (by kernel_rfl)) ?_
  refine jq 1 [(0, vi a0), (1, vi a1), (5, vb (a0 != a0))] [] ?_
  refine sj ?_
  refine rn 1 [(0, vi a0), (1, vi a1), (5, vb (a0 != a0)), (9, vi a1)] [] ?_
  obtain ⟨y2, hy2, h⟩ := bind_some h
  refine RegJ.op (Op1.call (y' := vb (a1 != a1)) (obx := []) (oby := []) (ob2 := []) _ _ (cy (I0 10 (.call 39 [(.t 9)]))) rfl (cmp_isNaN_int_ok n a1 y2 hy2) [] (by kernel_rfl) (.cons rfl (.cons rfl .nil)) (by kernel_rfl) (by kernel_rfl) ObsRen.nil (by kernel_rfl) ObsRen.nil (by kernel_rfl)) ?_
  refine jq 1 [(0, vi a0), (1, vi a1), (5, vb (a0 != a0)), (6, vb (a1 != a1))] [] ?_
  refine TriE.seq ?_
  refine sr [(0, vi a0), (1, vi a1), (6, vb (a1 != a1)), (11, vb (a0 != a0))] [] ?_
  refine TriE.cond (b := (a0 != a0)) rfl (fun c1 => ?_) (fun c1 => ?_)
  · have h := cond_t h c1
    refine TriE.seq ?_
    refine sr [(12, vb (a1 != a1))] [] ?_
    refine TriE.cond (b := (a1 != a1)) rfl (fun c2 => ?_) (fun c2 => ?_)
    · have h := cond_t h c2
      refine sr [(4, vi 0)] [] ?_
      refine TriE.ret ?_
      have h := Option.some.inj h
      subst h
      exact DoneS.ret (S' := ⟨[(4, vi 0)], []⟩) Sees.refl rfl rfl
    have h := cond_f h c2
    refine TriE.skip ?_
    refine sr [(4, vi (-1))] [] ?_
    refine TriE.ret ?_
    have h := Option.some.inj h
    subst h
    exact DoneS.ret (S' := ⟨[(4, vi (-1))], []⟩) Sees.refl rfl rfl
  have h := cond_f h c1
  refine TriE.skip ?_
  refine TriE.seq ?_
  refine sr [(0, vi a0), (1, vi a1), (13, vb (a1 != a1))] [] ?_
  refine TriE.cond (b := (a1 != a1)) rfl (fun c3 => ?_) (fun c3 => ?_)
  · have h := cond_t h c3
    refine sr [(4, vi 1)] [] ?_
    refine TriE.ret ?_
    have h := Option.some.inj h
    subst h
    exact DoneS.ret (S' := ⟨[(4, vi 1)], []⟩) Sees.refl rfl rfl
  have h := cond_f h c3
  refine TriE.skip ?_
  refine TriE.seq ?_
  refine sr [(0, vi a0), (1, vi a1), (16, vb (decide (a0 < a1)))] [] ?_
  refine TriE.cond (b := decide (a0 < a1)) rfl (fun c4 => ?_) (fun c4 => ?_)
  · have h := cond_t h c4
    refine sr [(4, vi (-1))] [] ?_
    refine TriE.ret ?_
    have h := Option.some.inj h
    subst h
    exact DoneS.ret (S' := ⟨[(4, vi (-1))], []⟩) Sees.refl rfl rfl
  have h := cond_f h c4
  refine TriE.skip ?_
  refine TriE.seq ?_
  refine sr [(19, vb (decide (a1 < a0)))] [] ?_
  refine TriE.cond (b := decide (a1 < a0)) rfl (fun c5 => ?_) (fun c5 => ?_)
  · have h := cond_t h c5
    refine sr [(4, vi 1)] [] ?_
    refine TriE.ret ?_
    have h := Option.some.inj h
    subst h
    exact DoneS.ret (S' := ⟨[(4, vi 1)], []⟩) Sees.refl rfl rfl
  have h := cond_f h c5
  refine TriE.skip ?_
  refine sr [(4, vi 0)] [] ?_
  refine TriE.ret ?_
  have h := Option.some.inj h
  subst h
  exact DoneS.ret (S' := ⟨[(4, vi 0)], []⟩) Sees.refl rfl rfl
theorem restore_Split_f2_ok (n : Nat) (a0 : Int) (a1 : Int) (a2 : Int) (a3 : List Int) (a4 : Int) (r : Int) (h : restore_Split_f2 n a0 a1 a2 a3 a4 = some r) : FnL Try.prog 21 [vi a0, vi a1, .ptr 0 0 0, .ptr 1 0 0, .ptr 2 0 0] [some (.row 1 [vi a2]), some (.row 1 [eS 1 vi a3]), some (.row 1 [vi a4])] (vi r) [some (.row 1 [vi a2]), some (.row 1 [eS 1 vi a3]), some (.row 1 [vi a4])] := by
  dsimp only [restore_Split_f2] at h
  refine FnL.ofS (ts := [7]) Try.call21 Try.func21 rfl rfl (Nat.le_of_ble_eq_true rfl) (Nat.le_of_ble_eq_true rfl) (hall_of (.cons rfl (.cons rfl (.cons rfl .nil)))) ?_
  refine sr [(0, vi a0), (1, vi a1), (2, .ptr 0 0 0), (3, .ptr 1 0 0), (4, .ptr 2 0 0)] [some (.row 1 [vi a2]), some (.row 1 [eS 1 vi a3]), some (.row 1 [vi a4])] ?_
  refine TriE.seq ?_
  refine TriE.sees (Sees.less (fr' := [(0, vi a0), (1, vi a1), (2, .ptr 0 0 0), (3, .ptr 1 0 0), (4, .ptr 2 0 0)]) (.cons rfl (.cons rfl (.cons rfl (.cons rfl (.cons rfl .nil)))))) ?_
  refine TriE.draw (by kernel_rfl) ?_
  refine RegD.run 3 [(10, vi a1), (9, eS 1 vi a3), (8, vi a2), (0, vi a0), (1, vi a1), (2, .ptr 0 0 0), (3, .ptr 1 0 0), (4, .ptr 2 0 0)] [some (.row 1 [vi a2]), some (.row 1 [eS 1 vi a3]), some (.row 1 [vi a4]), none, none, none] (by kernel_rfl) ?_
  obtain ⟨c1, h⟩ := chk_some h
  refine dv (.fptr 1 (List.map vi a3) a1.toNat 0) (cy (I0 11 (.iaddr 1 (.t 9) (.t 10)))) (ok_iaddr_m (j := a1.toNat) rfl rfl (inB_to c1) (inB_lt c1)) rfl ?_
  obtain ⟨c2, h⟩ := chk_some h
  refine dv (vi (ix a3 a1.toNat)) (cy (I0 12 (.load false 1 (.t 11)))) (ok_load_fm (v := vi (ix a3 a1.toNat)) rfl c2 rfl) rfl ?_
  obtain ⟨c3, h⟩ := chk_some h
  refine dv (vi (a2 * (ix a3 a1.toNat))) (cy (I0 13 (.bin .mul false (.t 8) (.t 12)))) (r_mul rfl rfl c3) rfl ?_
  refine RegD.run 1 [(14, vi a4), (13, vi (a2 * (ix a3 a1.toNat))), (12, vi (ix a3 a1.toNat)), (11, .fptr 1 (List.map vi a3) a1.toNat 0), (10, vi a1), (9, eS 1 vi a3), (8, vi a2), (0, vi a0), (1, vi a1), (2, .ptr 0 0 0), (3, .ptr 1 0 0), (4, .ptr 2 0 0)] [some (.row 1 [vi a2]), some (.row 1 [eS 1 vi a3]), some (.row 1 [vi a4]), none, none, none, none, none, none, none] (by kernel_rfl) ?_
  obtain ⟨c4, h⟩ := chk_some h
  refine dv (vi (Int.tmod (a2 * (ix a3 a1.toNat)) a4)) (cy (I0 15 (.bin .rem false (.t 13) (.t 14)))) (r_rem rfl rfl c4) rfl ?_
  refine RegD.run 3 [(18, vi a0), (17, eS 1 vi a3), (16, vi a2), (15, vi (Int.tmod (a2 * (ix a3 a1.toNat)) a4)), (14, vi a4), (13, vi (a2 * (ix a3 a1.toNat))), (12, vi (ix a3 a1.toNat)), (11, .fptr 1 (List.map vi a3) a1.toNat 0), (10, vi a1), (9, eS 1 vi a3), (8, vi a2), (0, vi a0), (1, vi a1), (2, .ptr 0 0 0), (3, .ptr 1 0 0), (4, .ptr 2 0 0)] [some (.row 1 [vi a2]), some (.row 1 [eS 1 vi a3]), some (.row 1 [vi a4]), none, none, none, none, none, none, none, none, none, none, none] (by kernel_rfl) ?_
  obtain ⟨c5, h⟩ := chk_some h
  refine dv (.fptr 1 (List.map vi a3) a0.toNat 0) (cy (I0 19 (.iaddr 1 (.t 17) (.t 18)))) (ok_iaddr_m (j := a0.toNat) rfl rfl (inB_to c5) (inB_lt c5)) rfl ?_
  obtain ⟨c6, h⟩ := chk_some h
  refine dv (vi (ix a3 a0.toNat)) (cy (I0 20 (.load false 1 (.t 19)))) (ok_load_fm (v := vi (ix a3 a0.toNat)) rfl c6 rfl) rfl ?_
  obtain ⟨c7, h⟩ := chk_some h
  refine dv (vi (a2 * (ix a3 a0.toNat))) (cy (I0 21 (.bin .mul false (.t 16) (.t 20)))) (r_mul rfl rfl c7) rfl ?_
  refine RegD.run 1 [(22, vi a4), (21, vi (a2 * (ix a3 a0.toNat))), (20, vi (ix a3 a0.toNat)), (19, .fptr 1 (List.map vi a3) a0.toNat 0), (18, vi a0), (17, eS 1 vi a3), (16, vi a2), (15, vi (Int.tmod (a2 * (ix a3 a1.toNat)) a4)), (14, vi a4), (13, vi (a2 * (ix a3 a1.toNat))), (12, vi (ix a3 a1.toNat)), (11, .fptr 1 (List.map vi a3) a1.toNat 0), (10, vi a1), (9, eS 1 vi a3), (8, vi a2), (0, vi a0), (1, vi a1), (2, .ptr 0 0 0), (3, .ptr 1 0 0), (4, .ptr 2 0 0)] [some (.row 1 [vi a2]), some (.row 1 [eS 1 vi a3]), some (.row 1 [vi a4]), none, none, none, none, none, none, none, none, none, none, none, none, none, none, none] (by kernel_rfl) ?_
  refine dv (vi (Int.tmod (a2 * (ix a3 a0.toNat)) a4)) (cy (I0 23 (.bin .rem false (.t 21) (.t 22)))) (r_rem rfl rfl c4) rfl ?_
  obtain ⟨y1, hy1, h⟩ := bind_some h
  refine RegD.op (OpD.call (y' := vi y1) (obx := []) (oby := []) (ob2 := [some (.row 1 [vi a2]), some (.row 1 [eS 1 vi a3]), some (.row 1 [vi a4]), none, none, none, none, none, none, none, none, none, none, none, none, none, none, none, none, none]) (tch := []) 0 _ _ (cy (I0 24 (.call 22 [(.t 15), (.t 23)]))) (cmp_Compare_int_ok n (Int.tmod (a2 * (ix a3 a1.toNat)) a4) (Int.tmod (a2 * (ix a3 a0.toNat)) a4) y1 hy1) [] (by kernel_rfl) (.cons rfl (.cons rfl (.cons rfl .nil))) (by kernel_rfl) (by kernel_rfl) ObsRen.nil (by kernel_rfl) ObsRen.nil (by kernel_rfl) rfl (.inr ⟨rfl, rfl⟩)) ?_
  refine RegD.run 1 [(7, vi y1), (24, vi y1), (23, vi (Int.tmod (a2 * (ix a3 a0.toNat)) a4)), (22, vi a4), (21, vi (a2 * (ix a3 a0.toNat))), (20, vi (ix a3 a0.toNat)), (19, .fptr 1 (List.map vi a3) a0.toNat 0), (18, vi a0), (17, eS 1 vi a3), (16, vi a2), (15, vi (Int.tmod (a2 * (ix a3 a1.toNat)) a4)), (14, vi a4), (13, vi (a2 * (ix a3 a1.toNat))), (12, vi (ix a3 a1.toNat)), (11, .fptr 1 (List.map vi a3) a1.toNat 0), (10, vi a1), (9, eS 1 vi a3), (8, vi a2), (0, vi a0), (1, vi a1), (2, .ptr 0 0 0), (3, .ptr 1 0 0), (4, .ptr 2 0 0)] [some (.row 1 [vi a2]), some (.row 1 [eS 1 vi a3]), some (.row 1 [vi a4]), none, none, none, none, none, none, none, none, none, none, none, none, none, none, none, none, none, none] (by kernel_rfl) ?_
  refine RegD.done rfl (by kernel_rfl) (S' := ⟨[(7, vi y1)], [some (.row 1 [vi a2]), some (.row 1 [eS 1 vi a3]), some (.row 1 [vi a4])]⟩) (sc [0, 1, 2] (by decide) (by kernel_rfl) (.cons rfl (.cons rfl (.cons rfl .nil))) rfl rfl) ?_
  refine TriE.ret ?_
  have h := Option.some.inj h
  subst h
  exact DoneS.ret (S' := ⟨[(7, vi y1)], [some (.row 1 [vi a2]), some (.row 1 [eS 1 vi a3]), some (.row 1 [vi a4])]⟩) Sees.refl rfl rfl
theorem slices_insertionSortCmpFunc_int_ok (n : Nat) (a0 : List Int) (a1 : Int) (a2 : Int) (a3 : Int) (a4 : List Int) (a5 : Int) (r : (List Int)) (h : slices_insertionSortCmpFunc_int n a0 a1 a2 a3 a4 a5 = some r) : FnL Try.prog 53 [.own 0 0 a0.length, vi a1, vi a2, .fn (.func 21) [] [.ptr 1 0 0, .ptr 2 0 0, .ptr 3 0 0]] [some (.row 1 (List.map vi a0)), some (.row 1 [vi a3]), some (.row 1 [eS 1 vi a4]), some (.row 1 [vi a5])] (.tup []) [some (.row 1 (List.map vi r)), some (.row 1 [vi a3]), some (.row 1 [eS 1 vi a4]), some (.row 1 [vi a5])] := by
  dsimp only [slices_insertionSortCmpFunc_int] at h
  refine FnL.ofS (ts := []) Try.call53 Try.func53 rfl rfl (Nat.le_of_ble_eq_true rfl) (Nat.le_of_ble_eq_true rfl) (hall_of (.cons rfl (.cons rfl (.cons rfl (.cons rfl .nil))))) ?_
  refine sj ?_
  refine rn 1 [(0, .own 0 0 a0.length), (1, vi a1), (2, vi a2), (3, .fn (.func 21) [] [.ptr 1 0 0, .ptr 2 0 0, .ptr 3 0 0]), (10, vi a1)] [some (.row 1 (List.map vi a0)), some (.row 1 [vi a3]), some (.row 1 [eS 1 vi a4]), some (.row 1 [vi a5])] ?_
  obtain ⟨c1, h⟩ := chk_some h
  refine jv (vi (a1 + 1)) (cy (I0 11 (.bin .add false (.t 10) (.c (.p (.int .i64 1)))))) (r_add rfl rfl c1) rfl ?_
  refine jq 1 [(0, .own 0 0 a0.length), (1, vi a1), (2, vi a2), (3, .fn (.func 21) [] [.ptr 1 0 0, .ptr 2 0 0, .ptr 3 0 0]), (8, vi (a1 + 1))] [some (.row 1 (List.map vi a0)), some (.row 1 [vi a3]), some (.row 1 [eS 1 vi a4]), some (.row 1 [vi a5])] ?_
  refine TriE.block ?_
  refine TriE.loopN h (fun (t : Int × (List Int)) => match t with | (v6, v7) => St.mk [(0, .own 0 0 v7.length), (1, vi a1), (2, vi a2), (3, .fn (.func 21) [] [.ptr 1 0 0, .ptr 2 0 0, .ptr 3 0 0]), (8, vi v6)] [some (.row 1 (List.map vi v7)), some (.row 1 [vi a3]), some (.row 1 [eS 1 vi a4]), some (.row 1 [vi a5])]) rfl ?_
  clear h
  rintro back ⟨v6, v7⟩ h
  dsimp only [slices_insertionSortCmpFunc_int_L2] at h
  refine TriE.seq ?_
  refine sr [(0, .own 0 0 v7.length), (1, vi a1), (2, vi a2), (3, .fn (.func 21) [] [.ptr 1 0 0, .ptr 2 0 0, .ptr 3 0 0]), (8, vi v6), (14, vb (decide (v6 < a2)))] [some (.row 1 (List.map vi v7)), some (.row 1 [vi a3]), some (.row 1 [eS 1 vi a4]), some (.row 1 [vi a5])] ?_
  refine TriE.cond (b := decide (v6 < a2)) rfl (fun c2 => ?_) (fun c2 => ?_)
  · have h := cond_t h c2
    refine TriE.skip ?_
    refine TriE.seqK h (fun (v12 : (List Int)) => St.mk [(0, .own 0 0 v12.length), (1, vi a1), (2, vi a2), (3, .fn (.func 21) [] [.ptr 1 0 0, .ptr 2 0 0, .ptr 3 0 0]), (8, vi v6)] [some (.row 1 (List.map vi v12)), some (.row 1 [vi a3]), some (.row 1 [eS 1 vi a4]), some (.row 1 [vi a5])]) ?_ ?_
    · rintro v12 h
      refine TriE.regJ ?_
      refine rn 1 [(0, .own 0 0 v12.length), (1, vi a1), (2, vi a2), (3, .fn (.func 21) [] [.ptr 1 0 0, .ptr 2 0 0, .ptr 3 0 0]), (15, vi v6)] [some (.row 1 (List.map vi v12)), some (.row 1 [vi a3]), some (.row 1 [eS 1 vi a4]), some (.row 1 [vi a5])] ?_
      obtain ⟨c15, h⟩ := chk_some h
      refine jv (vi (v6 + 1)) (cy (I0 16 (.bin .add false (.t 15) (.c (.p (.int .i64 1)))))) (r_add rfl rfl c15) rfl ?_
      refine jq 1 [(0, .own 0 0 v12.length), (1, vi a1), (2, vi a2), (3, .fn (.func 21) [] [.ptr 1 0 0, .ptr 2 0 0, .ptr 3 0 0]), (8, vi (v6 + 1))] [some (.row 1 (List.map vi v12)), some (.row 1 [vi a3]), some (.row 1 [eS 1 vi a4]), some (.row 1 [vi a5])] ?_
      exact Vs.intro Sees.refl ⟨(v6 + 1, v12), rfl, h⟩
    intro k1 h
    refine TriE.block ?_
    refine sr [(0, .own 0 0 v7.length), (1, vi a1), (2, vi a2), (3, .fn (.func 21) [] [.ptr 1 0 0, .ptr 2 0 0, .ptr 3 0 0]), (8, vi v6), (9, vi v6)] [some (.row 1 (List.map vi v7)), some (.row 1 [vi a3]), some (.row 1 [eS 1 vi a4]), some (.row 1 [vi a5])] ?_
    refine TriE.block ?_
    refine TriE.loopN h (fun (t : Int × (List Int)) => match t with | (v9, v10) => St.mk [(0, .own 0 0 v10.length), (1, vi a1), (2, vi a2), (3, .fn (.func 21) [] [.ptr 1 0 0, .ptr 2 0 0, .ptr 3 0 0]), (8, vi v6), (9, vi v9)] [some (.row 1 (List.map vi v10)), some (.row 1 [vi a3]), some (.row 1 [eS 1 vi a4]), some (.row 1 [vi a5])]) rfl ?_
    clear h
    rintro back ⟨v9, v10⟩ h
    dsimp only [slices_insertionSortCmpFunc_int_L1] at h
    refine TriE.seq ?_
    refine TriE.seq ?_
    refine TriE.sees (Sees.less (fr' := [(0, .own 0 0 v10.length), (1, vi a1), (2, vi a2), (3, .fn (.func 21) [] [.ptr 1 0 0, .ptr 2 0 0, .ptr 3 0 0]), (8, vi v6), (9, vi v9)]) (.cons rfl (.cons rfl (.cons rfl (.cons rfl (.cons rfl (.cons rfl .nil))))))) ?_
    refine TriE.draw (by kernel_rfl) ?_
    refine RegD.run 4 [(21, vb (decide (a1 < v9))), (20, vb (decide (a1 < v9))), (19, vi a1), (18, vi v9), (0, .own 0 0 v10.length), (1, vi a1), (2, vi a2), (3, .fn (.func 21) [] [.ptr 1 0 0, .ptr 2 0 0, .ptr 3 0 0]), (8, vi v6), (9, vi v9)] [some (.row 1 (List.map vi v10)), some (.row 1 [vi a3]), some (.row 1 [eS 1 vi a4]), some (.row 1 [vi a5]), none, none, none, none] (by kernel_rfl) ?_
    refine RegD.op (OpD.valk (g := decide (a1 < v9)) (v := .fn (.func 21) [] [.ptr 1 0 0, .ptr 2 0 0, .ptr 3 0 0]) _ _ (cy (IG 22 (.mov (.t 3)) 21 true)) rfl (by kernel_rfl) (fun hg => (.cons rfl .nil))) ?_
    refine RegD.op (OpD.valk (g := decide (a1 < v9)) (v := .own 0 0 v10.length) _ _ (cy (IG 23 (.mov (.t 0)) 21 true)) rfl (by kernel_rfl) (fun hg => (.cons rfl .nil))) ?_
    refine RegD.op (OpD.valk (g := decide (a1 < v9)) (v := vi v9) _ _ (cy (IG 24 (.mov (.t 9)) 21 true)) rfl (by kernel_rfl) (fun hg => (.cons rfl .nil))) ?_
    obtain ⟨c3, h⟩ := chk_some h
    refine RegD.op (OpD.valg (g := decide (a1 < v9)) (v := .ptr 0 v9.toNat 0) _ _ (cy (IG 25 (.iaddr 1 (.t 23) (.t 24)) 21 true)) rfl (fun hg => (ok_iaddr_o0 (j := v9.toNat) rfl rfl rfl (inB_to (gor c3 hg)) (inB_lt (gor c3 hg)))) (fun hg => (.cons hg (.cons hg .nil)))) ?_
    obtain ⟨c4, h⟩ := chk_some h
    refine RegD.op (OpD.valg (g := decide (a1 < v9)) (v := vi (ix v10 v9.toNat)) _ _ (cy (IG 26 (.load false 1 (.t 25)) 21 true)) rfl (fun hg => (ok_load_pm (l := v10) (e := vi) (v := vi (ix v10 v9.toNat)) rfl rfl (gor c4 hg) rfl)) (fun hg => (.cons hg .nil))) ?_
    refine RegD.op (OpD.valk (g := decide (a1 < v9)) (v := .own 0 0 v10.length) _ _ (cy (IG 27 (.mov (.t 0)) 21 true)) rfl (by kernel_rfl) (fun hg => (.cons rfl .nil))) ?_
    refine RegD.op (OpD.valk (g := decide (a1 < v9)) (v := vi v9) _ _ (cy (IG 28 (.mov (.t 9)) 21 true)) rfl (by kernel_rfl) (fun hg => (.cons rfl .nil))) ?_
    obtain ⟨c5, h⟩ := chk_some h
    refine RegD.op (OpD.valg (g := decide (a1 < v9)) (v := vi (v9 - 1)) _ _ (cy (IG 29 (.bin .sub false (.t 28) (.c (.p (.int .i64 1)))) 21 true)) rfl (fun hg => (r_sub rfl rfl (gor c5 hg))) (fun hg => (.cons hg (.cons rfl .nil)))) ?_
    obtain ⟨c6, h⟩ := chk_some h
    refine RegD.op (OpD.valg (g := decide (a1 < v9)) (v := .ptr 0 ((v9 - 1).toNat) 0) _ _ (cy (IG 30 (.iaddr 1 (.t 27) (.t 29)) 21 true)) rfl (fun hg => (ok_iaddr_o0 (j := (v9 - 1).toNat) rfl rfl rfl (inB_to (gor c6 hg)) (inB_lt (gor c6 hg)))) (fun hg => (.cons hg (.cons hg .nil)))) ?_
    obtain ⟨c7, h⟩ := chk_some h
    refine RegD.op (OpD.valg (g := decide (a1 < v9)) (v := vi (ix v10 ((v9 - 1).toNat))) _ _ (cy (IG 31 (.load false 1 (.t 30)) 21 true)) rfl (fun hg => (ok_load_pm (l := v10) (e := vi) (v := vi (ix v10 ((v9 - 1).toNat))) rfl rfl (gor c7 hg) rfl)) (fun hg => (.cons hg .nil))) ?_
    obtain ⟨y11, hy11, h⟩ := bind_some h
    refine RegD.op (OpD.dyng (g := decide (a1 < v9)) (y' := vi y11) (obx := [some (.row 1 [vi a3]), some (.row 1 [eS 1 vi a4]), some (.row 1 [vi a5])]) _ _ _ (cy (IG 32 (.dyn (.t 22) [(.t 26), (.t 31)]) 21 true)) rfl rfl (fun hg => restore_Split_f2_ok n (ix v10 v9.toNat) (ix v10 ((v9 - 1).toNat)) a3 a4 a5 y11 (gcall_some hy11 hg)) [1, 2, 3] (fun hg => by kernel_rfl) (fun hg => (.cons hg (.cons hg (.cons hg .nil)))) (by kernel_rfl) (by kernel_rfl) (.cons rfl (.cons rfl (.cons rfl .nil))) (by kernel_rfl) (by kernel_rfl) rfl) ?_
    refine RegD.op (OpD.valk (g := decide (a1 < v9)) (v := vb (decide (y11 < (0 : Int)))) _ _ (cy (IG 33 (.bin .lss false (.t 32) (.c (.p (.int .i64 0)))) 21 true)) rfl (by kernel_rfl) (fun hg => (.cons hg (.cons rfl .nil)))) ?_
    refine RegD.op (OpD.and (cy (I0 34 (.pick (.t 21) (.t 33) (.c (.p (.bool false)))))) rfl rfl (by first | exact hokA1 | exact hokA0 | simp)) ?_
    refine RegD.done rfl (by kernel_rfl) (S' := ⟨[(0, .own 0 0 v10.length), (1, vi a1), (2, vi a2), (3, .fn (.func 21) [] [.ptr 1 0 0, .ptr 2 0 0, .ptr 3 0 0]), (8, vi v6), (9, vi v9), (34, vb ((decide (a1 < v9)) && (decide (y11 < (0 : Int)))))], [some (.row 1 (List.map vi v10)), some (.row 1 [vi a3]), some (.row 1 [eS 1 vi a4]), some (.row 1 [vi a5])]⟩) (sc [0, 1, 2, 3] (by decide) (by kernel_rfl) (obRen_row vi_frz rfl (.cons rfl (.cons rfl (.cons rfl .nil)))) rfl rfl) ?_
    refine TriE.cond (b := (decide (a1 < v9)) && (decide (y11 < (0 : Int)))) rfl (fun c8 => ?_) (fun c8 => ?_)
    · have h := cond_t h c8
      refine TriE.skip ?_
      refine TriE.seq ?_
      refine TriE.block ?_
      refine TriE.sees (Sees.less (fr' := [(0, .own 0 0 v10.length), (1, vi a1), (2, vi a2), (3, .fn (.func 21) [] [.ptr 1 0 0, .ptr 2 0 0, .ptr 3 0 0]), (8, vi v6), (9, vi v9)]) (.cons rfl (.cons rfl (.cons rfl (.cons rfl (.cons rfl (.cons rfl .nil))))))) ?_
      refine TriE.draw (by kernel_rfl) ?_
      refine RegD.run 4 [(40, vi v9), (39, .own 0 0 v10.length), (38, vi v9), (37, .own 0 0 v10.length), (0, .own 0 0 v10.length), (1, vi a1), (2, vi a2), (3, .fn (.func 21) [] [.ptr 1 0 0, .ptr 2 0 0, .ptr 3 0 0]), (8, vi v6), (9, vi v9)] [some (.row 1 (List.map vi v10)), some (.row 1 [vi a3]), some (.row 1 [eS 1 vi a4]), some (.row 1 [vi a5]), none, none, none, none] (by kernel_rfl) ?_
      obtain ⟨c9, h⟩ := chk_some h
      refine dv (vi (v9 - 1)) (cy (I0 41 (.bin .sub false (.t 40) (.c (.p (.int .i64 1)))))) (r_sub rfl rfl c9) rfl ?_
      refine RegD.run 2 [(43, vi v9), (42, .own 0 0 v10.length), (41, vi (v9 - 1)), (40, vi v9), (39, .own 0 0 v10.length), (38, vi v9), (37, .own 0 0 v10.length), (0, .own 0 0 v10.length), (1, vi a1), (2, vi a2), (3, .fn (.func 21) [] [.ptr 1 0 0, .ptr 2 0 0, .ptr 3 0 0]), (8, vi v6), (9, vi v9)] [some (.row 1 (List.map vi v10)), some (.row 1 [vi a3]), some (.row 1 [eS 1 vi a4]), some (.row 1 [vi a5]), none, none, none, none, none, none, none] (by kernel_rfl) ?_
      refine dv (vi (v9 - 1)) (cy (I0 44 (.bin .sub false (.t 43) (.c (.p (.int .i64 1)))))) (r_sub rfl rfl c9) rfl ?_
      obtain ⟨c10, h⟩ := chk_some h
      refine dv (.ptr 0 ((v9 - 1).toNat) 0) (cy (I0 45 (.iaddr 1 (.t 42) (.t 44)))) (ok_iaddr_o0 (j := (v9 - 1).toNat) rfl rfl rfl (inB_to c10) (inB_lt c10)) rfl ?_
      obtain ⟨c11, h⟩ := chk_some h
      refine dv (vi (ix v10 ((v9 - 1).toNat))) (cy (I0 46 (.load false 1 (.t 45)))) (ok_load_pm (l := v10) (e := vi) (v := vi (ix v10 ((v9 - 1).toNat))) rfl rfl c11 rfl) rfl ?_
      refine RegD.run 2 [(48, vi v9), (47, .own 0 0 v10.length), (46, vi (ix v10 ((v9 - 1).toNat))), (45, .ptr 0 ((v9 - 1).toNat) 0), (44, vi (v9 - 1)), (43, vi v9), (42, .own 0 0 v10.length), (41, vi (v9 - 1)), (40, vi v9), (39, .own 0 0 v10.length), (38, vi v9), (37, .own 0 0 v10.length), (0, .own 0 0 v10.length), (1, vi a1), (2, vi a2), (3, .fn (.func 21) [] [.ptr 1 0 0, .ptr 2 0 0, .ptr 3 0 0]), (8, vi v6), (9, vi v9)] [some (.row 1 (List.map vi v10)), some (.row 1 [vi a3]), some (.row 1 [eS 1 vi a4]), some (.row 1 [vi a5]), none, none, none, none, none, none, none, none, none, none, none, none] (by kernel_rfl) ?_
      obtain ⟨c12, h⟩ := chk_some h
      refine dv (.ptr 0 v9.toNat 0) (cy (I0 49 (.iaddr 1 (.t 47) (.t 48)))) (ok_iaddr_o0 (j := v9.toNat) rfl rfl rfl (inB_to c12) (inB_lt c12)) rfl ?_
      obtain ⟨c13, h⟩ := chk_some h
      refine dv (vi (ix v10 v9.toNat)) (cy (I0 50 (.load false 1 (.t 49)))) (ok_load_pm (l := v10) (e := vi) (v := vi (ix v10 v9.toNat)) rfl rfl c13 rfl) rfl ?_
      refine dv (.ptr 0 v9.toNat 0) (cy (I0 51 (.iaddr 1 (.t 37) (.t 38)))) (ok_iaddr_o0 (j := v9.toNat) rfl rfl rfl (inB_to c12) (inB_lt c12)) rfl ?_
      refine de (.undef) [some (.row 1 (List.map vi (List.set v10 v9.toNat (ix v10 ((v9 - 1).toNat))))), some (.row 1 [vi a3]), some (.row 1 [eS 1 vi a4]), some (.row 1 [vi a5]), none, none, none, none, none, none, none, none, none, none, none, none, none, none, none, none] (cy (IN (.store 1 (.t 51) (.t 46)))) (ok_store_m (l := v10) (e := vi) (x' := (ix v10 ((v9 - 1).toNat))) (u := vi (ix v10 ((v9 - 1).toNat))) rfl rfl rfl c13 rfl rfl) rfl rfl rfl ?_
      refine dv (.ptr 0 ((v9 - 1).toNat) 0) (cy (I0 52 (.iaddr 1 (.t 39) (.t 41)))) (ok_iaddr_o0 (j := (v9 - 1).toNat) rfl rfl rfl (inB_to c10) (inB_lt c10)) rfl ?_
      obtain ⟨c14, h⟩ := chk_some h
      refine de (.undef) [some (.row 1 (List.map vi (List.set (List.set v10 v9.toNat (ix v10 ((v9 - 1).toNat))) ((v9 - 1).toNat) (ix v10 v9.toNat)))), some (.row 1 [vi a3]), some (.row 1 [eS 1 vi a4]), some (.row 1 [vi a5]), none, none, none, none, none, none, none, none, none, none, none, none, none, none, none, none, none, none] (cy (IN (.store 1 (.t 52) (.t 50)))) (ok_store_m (l := (List.set v10 v9.toNat (ix v10 ((v9 - 1).toNat)))) (e := vi) (x' := (ix v10 v9.toNat)) (u := vi (ix v10 v9.toNat)) rfl rfl rfl c14 rfl rfl) rfl rfl rfl ?_
      refine RegD.done rfl (by kernel_rfl) (S' := ⟨[(0, .own 0 0 v10.length), (1, vi a1), (2, vi a2), (3, .fn (.func 21) [] [.ptr 1 0 0, .ptr 2 0 0, .ptr 3 0 0]), (8, vi v6), (9, vi v9)], [some (.row 1 (List.map vi (List.set (List.set v10 v9.toNat (ix v10 ((v9 - 1).toNat))) ((v9 - 1).toNat) (ix v10 v9.toNat)))), some (.row 1 [vi a3]), some (.row 1 [eS 1 vi a4]), some (.row 1 [vi a5])]⟩) (sc [0, 1, 2, 3] (by decide) (by kernel_rfl) (obRen_row vi_frz rfl (.cons rfl (.cons rfl (.cons rfl .nil)))) rfl rfl) ?_
      refine TriE.regJ ?_
      refine rn 1 [(0, .own 0 0 v10.length), (1, vi a1), (2, vi a2), (3, .fn (.func 21) [] [.ptr 1 0 0, .ptr 2 0 0, .ptr 3 0 0]), (8, vi v6), (35, vi v9)] [some (.row 1 (List.map vi (List.set (List.set v10 v9.toNat (ix v10 ((v9 - 1).toNat))) ((v9 - 1).toNat) (ix v10 v9.toNat)))), some (.row 1 [vi a3]), some (.row 1 [eS 1 vi a4]), some (.row 1 [vi a5])] ?_
      refine jv (vi (v9 - 1)) (cy (I0 36 (.bin .sub false (.t 35) (.c (.p (.int .i64 1)))))) (r_sub rfl rfl c9) rfl ?_
      refine jq 1 [(0, .own 0 0 v10.length), (1, vi a1), (2, vi a2), (3, .fn (.func 21) [] [.ptr 1 0 0, .ptr 2 0 0, .ptr 3 0 0]), (8, vi v6), (9, vi (v9 - 1))] [some (.row 1 (List.map vi (List.set (List.set v10 v9.toNat (ix v10 ((v9 - 1).toNat))) ((v9 - 1).toNat) (ix v10 v9.toNat)))), some (.row 1 [vi a3]), some (.row 1 [eS 1 vi a4]), some (.row 1 [vi a5])] ?_
      exact Vs.intro (Sees.less (.cons (by simp only [List.length_set]; rfl) (.cons rfl (.cons rfl (.cons rfl (.cons rfl (.cons rfl .nil))))))) ⟨(v9 - 1, (List.set (List.set v10 v9.toNat (ix v10 ((v9 - 1).toNat))) ((v9 - 1).toNat) (ix v10 v9.toNat))), rfl, h⟩
    have h := cond_f h c8
    refine TriE.exit ?_
    exact Vs.intro sy ⟨v10, rfl, h⟩
  have h := cond_f h c2
  refine TriE.exit ?_
  have h := Option.some.inj h
  subst h
  exact DoneS.normal (S' := ⟨[], [some (.row 1 (List.map vi v7)), some (.row 1 [vi a3]), some (.row 1 [eS 1 vi a4]), some (.row 1 [vi a5])]⟩) sy rfl rfl
theorem slices_swapRangeCmpFunc_int_ok (n : Nat) (a0 : List Int) (a1 : Int) (a2 : Int) (a3 : Int) (a4 : Int) (a5 : List Int) (a6 : Int) (r : (List Int)) (h : slices_swapRangeCmpFunc_int n a0 a1 a2 a3 a4 a5 a6 = some r) : FnL Try.prog 90 [.own 0 0 a0.length, vi a1, vi a2, vi a3, .fn (.func 21) [] [.ptr 1 0 0, .ptr 2 0 0, .ptr 3 0 0]] [some (.row 1 (List.map vi a0)), some (.row 1 [vi a4]), some (.row 1 [eS 1 vi a5]), some (.row 1 [vi a6])] (.tup []) [some (.row 1 (List.map vi r)), some (.row 1 [vi a4]), some (.row 1 [eS 1 vi a5]), some (.row 1 [vi a6])] := by
  dsimp only [slices_swapRangeCmpFunc_int] at h
  refine FnL.ofS (ts := []) Try.call90 Try.func90 rfl rfl (Nat.le_of_ble_eq_true rfl) (Nat.le_of_ble_eq_true rfl) (hall_of (.cons rfl (.cons rfl (.cons rfl (.cons rfl .nil))))) ?_
  refine sr [(0, .own 0 0 a0.length), (1, vi a1), (2, vi a2), (3, vi a3), (10, vi 0)] [some (.row 1 (List.map vi a0)), some (.row 1 [vi a4]), some (.row 1 [eS 1 vi a5]), some (.row 1 [vi a6])] ?_
  refine TriE.block ?_
  refine TriE.sees (S' := ⟨[(0, .own 0 0 a0.length), (1, vi a1), (2, vi a2), (3, vi a3), (10, vi 0)], [some (.row 1 (List.map vi a0)), some (.row 1 [vi a4]), some (.row 1 [eS 1 vi a5]), some (.row 1 [vi a6])]⟩) sy ?_
  refine TriE.loopN h (fun (t : Nat × (List Int)) => match t with | (v1, v2) => St.mk [(0, .own 0 0 v2.length), (1, vi a1), (2, vi a2), (3, vi a3), (10, vi v1)] [some (.row 1 (List.map vi v2)), some (.row 1 [vi a4]), some (.row 1 [eS 1 vi a5]), some (.row 1 [vi a6])]) rfl ?_
  clear h
  rintro back ⟨v1, v2⟩ h
  dsimp only [slices_swapRangeCmpFunc_int_L1] at h
  refine TriE.seq ?_
  refine sr [(0, .own 0 0 v2.length), (1, vi a1), (2, vi a2), (3, vi a3), (10, vi v1), (13, vb (decide ((v1 : Int) < a3)))] [some (.row 1 (List.map vi v2)), some (.row 1 [vi a4]), some (.row 1 [eS 1 vi a5]), some (.row 1 [vi a6])] ?_
  refine TriE.cond (b := decide ((v1 : Int) < a3)) rfl (fun c1 => ?_) (fun c1 => ?_)
  · have h := cond_t h c1
    refine TriE.skip ?_
    refine TriE.seq ?_
    refine TriE.block ?_
    refine TriE.sees (Sees.less (fr' := [(0, .own 0 0 v2.length), (1, vi a1), (2, vi a2), (3, vi a3), (10, vi v1)]) (.cons rfl (.cons rfl (.cons rfl (.cons rfl (.cons rfl .nil)))))) ?_
    refine TriE.draw (by kernel_rfl) ?_
    refine RegD.run 3 [(18, vi v1), (17, vi a1), (16, .own 0 0 v2.length), (0, .own 0 0 v2.length), (1, vi a1), (2, vi a2), (3, vi a3), (10, vi v1)] [some (.row 1 (List.map vi v2)), some (.row 1 [vi a4]), some (.row 1 [eS 1 vi a5]), some (.row 1 [vi a6]), none, none, none] (by kernel_rfl) ?_
    obtain ⟨c2, h⟩ := chk_some h
    refine dv (vi (a1 + (v1 : Int))) (cy (I0 19 (.bin .add false (.t 17) (.t 18)))) (r_add rfl rfl c2) rfl ?_
    refine RegD.run 3 [(22, vi v1), (21, vi a2), (20, .own 0 0 v2.length), (19, vi (a1 + (v1 : Int))), (18, vi v1), (17, vi a1), (16, .own 0 0 v2.length), (0, .own 0 0 v2.length), (1, vi a1), (2, vi a2), (3, vi a3), (10, vi v1)] [some (.row 1 (List.map vi v2)), some (.row 1 [vi a4]), some (.row 1 [eS 1 vi a5]), some (.row 1 [vi a6]), none, none, none, none, none, none, none] (by kernel_rfl) ?_
    obtain ⟨c3, h⟩ := chk_some h
    refine dv (vi (a2 + (v1 : Int))) (cy (I0 23 (.bin .add false (.t 21) (.t 22)))) (r_add rfl rfl c3) rfl ?_
    refine RegD.run 3 [(26, vi v1), (25, vi a2), (24, .own 0 0 v2.length), (23, vi (a2 + (v1 : Int))), (22, vi v1), (21, vi a2), (20, .own 0 0 v2.length), (19, vi (a1 + (v1 : Int))), (18, vi v1), (17, vi a1), (16, .own 0 0 v2.length), (0, .own 0 0 v2.length), (1, vi a1), (2, vi a2), (3, vi a3), (10, vi v1)] [some (.row 1 (List.map vi v2)), some (.row 1 [vi a4]), some (.row 1 [eS 1 vi a5]), some (.row 1 [vi a6]), none, none, none, none, none, none, none, none, none, none, none] (by kernel_rfl) ?_
    refine dv (vi (a2 + (v1 : Int))) (cy (I0 27 (.bin .add false (.t 25) (.t 26)))) (r_add rfl rfl c3) rfl ?_
    obtain ⟨c4, h⟩ := chk_some h
    refine dv (.ptr 0 ((a2 + (v1 : Int)).toNat) 0) (cy (I0 28 (.iaddr 1 (.t 24) (.t 27)))) (ok_iaddr_o0 (j := (a2 + (v1 : Int)).toNat) rfl rfl rfl (inB_to c4) (inB_lt c4)) rfl ?_
    obtain ⟨c5, h⟩ := chk_some h
    refine dv (vi (ix v2 ((a2 + (v1 : Int)).toNat))) (cy (I0 29 (.load false 1 (.t 28)))) (ok_load_pm (l := v2) (e := vi) (v := vi (ix v2 ((a2 + (v1 : Int)).toNat))) rfl rfl c5 rfl) rfl ?_
    refine RegD.run 3 [(32, vi v1), (31, vi a1), (30, .own 0 0 v2.length), (29, vi (ix v2 ((a2 + (v1 : Int)).toNat))), (28, .ptr 0 ((a2 + (v1 : Int)).toNat) 0), (27, vi (a2 + (v1 : Int))), (26, vi v1), (25, vi a2), (24, .own 0 0 v2.length), (23, vi (a2 + (v1 : Int))), (22, vi v1), (21, vi a2), (20, .own 0 0 v2.length), (19, vi (a1 + (v1 : Int))), (18, vi v1), (17, vi a1), (16, .own 0 0 v2.length), (0, .own 0 0 v2.length), (1, vi a1), (2, vi a2), (3, vi a3), (10, vi v1)] [some (.row 1 (List.map vi v2)), some (.row 1 [vi a4]), some (.row 1 [eS 1 vi a5]), some (.row 1 [vi a6]), none, none, none, none, none, none, none, none, none, none, none, none, none, none, none, none, none] (by kernel_rfl) ?_
    refine dv (vi (a1 + (v1 : Int))) (cy (I0 33 (.bin .add false (.t 31) (.t 32)))) (r_add rfl rfl c2) rfl ?_
    obtain ⟨c6, h⟩ := chk_some h
    refine dv (.ptr 0 ((a1 + (v1 : Int)).toNat) 0) (cy (I0 34 (.iaddr 1 (.t 30) (.t 33)))) (ok_iaddr_o0 (j := (a1 + (v1 : Int)).toNat) rfl rfl rfl (inB_to c6) (inB_lt c6)) rfl ?_
    obtain ⟨c7, h⟩ := chk_some h
    refine dv (vi (ix v2 ((a1 + (v1 : Int)).toNat))) (cy (I0 35 (.load false 1 (.t 34)))) (ok_load_pm (l := v2) (e := vi) (v := vi (ix v2 ((a1 + (v1 : Int)).toNat))) rfl rfl c7 rfl) rfl ?_
    refine dv (.ptr 0 ((a1 + (v1 : Int)).toNat) 0) (cy (I0 36 (.iaddr 1 (.t 16) (.t 19)))) (ok_iaddr_o0 (j := (a1 + (v1 : Int)).toNat) rfl rfl rfl (inB_to c6) (inB_lt c6)) rfl ?_
    refine de (.undef) [some (.row 1 (List.map vi (List.set v2 ((a1 + (v1 : Int)).toNat) (ix v2 ((a2 + (v1 : Int)).toNat))))), some (.row 1 [vi a4]), some (.row 1 [eS 1 vi a5]), some (.row 1 [vi a6]), none, none, none, none, none, none, none, none, none, none, none, none, none, none, none, none, none, none, none, none, none, none] (cy (IN (.store 1 (.t 36) (.t 29)))) (ok_store_m (l := v2) (e := vi) (x' := (ix v2 ((a2 + (v1 : Int)).toNat))) (u := vi (ix v2 ((a2 + (v1 : Int)).toNat))) rfl rfl rfl c7 rfl rfl) rfl rfl rfl ?_
    refine dv (.ptr 0 ((a2 + (v1 : Int)).toNat) 0) (cy (I0 37 (.iaddr 1 (.t 20) (.t 23)))) (ok_iaddr_o0 (j := (a2 + (v1 : Int)).toNat) rfl rfl rfl (inB_to c4) (inB_lt c4)) rfl ?_
    obtain ⟨c8, h⟩ := chk_some h
    refine de (.undef) [some (.row 1 (List.map vi (List.set (List.set v2 ((a1 + (v1 : Int)).toNat) (ix v2 ((a2 + (v1 : Int)).toNat))) ((a2 + (v1 : Int)).toNat) (ix v2 ((a1 + (v1 : Int)).toNat))))), some (.row 1 [vi a4]), some (.row 1 [eS 1 vi a5]), some (.row 1 [vi a6]), none, none, none, none, none, none, none, none, none, none, none, none, none, none, none, none, none, none, none, none, none, none, none, none] (cy (IN (.store 1 (.t 37) (.t 35)))) (ok_store_m (l := (List.set v2 ((a1 + (v1 : Int)).toNat) (ix v2 ((a2 + (v1 : Int)).toNat)))) (e := vi) (x' := (ix v2 ((a1 + (v1 : Int)).toNat))) (u := vi (ix v2 ((a1 + (v1 : Int)).toNat))) rfl rfl rfl c8 rfl rfl) rfl rfl rfl ?_
    refine RegD.done rfl (by kernel_rfl) (S' := ⟨[(0, .own 0 0 v2.length), (1, vi a1), (2, vi a2), (3, vi a3), (10, vi v1)], [some (.row 1 (List.map vi (List.set (List.set v2 ((a1 + (v1 : Int)).toNat) (ix v2 ((a2 + (v1 : Int)).toNat))) ((a2 + (v1 : Int)).toNat) (ix v2 ((a1 + (v1 : Int)).toNat))))), some (.row 1 [vi a4]), some (.row 1 [eS 1 vi a5]), some (.row 1 [vi a6])]⟩) (sc [0, 1, 2, 3] (by decide) (by kernel_rfl) (obRen_row vi_frz rfl (.cons rfl (.cons rfl (.cons rfl .nil)))) rfl rfl) ?_
    refine TriE.regJ ?_
    refine rn 1 [(0, .own 0 0 v2.length), (1, vi a1), (2, vi a2), (3, vi a3), (14, vi v1)] [some (.row 1 (List.map vi (List.set (List.set v2 ((a1 + (v1 : Int)).toNat) (ix v2 ((a2 + (v1 : Int)).toNat))) ((a2 + (v1 : Int)).toNat) (ix v2 ((a1 + (v1 : Int)).toNat))))), some (.row 1 [vi a4]), some (.row 1 [eS 1 vi a5]), some (.row 1 [vi a6])] ?_
    obtain ⟨c9, h⟩ := chk_some h
    refine jv (vi ((v1 + 1 : Nat) : Int)) (cy (I0 15 (.bin .add false (.t 14) (.c (.p (.int .i64 1)))))) (r_addn (i := v1) (j := 1) rfl rfl c9) rfl ?_
    refine jq 1 [(0, .own 0 0 v2.length), (1, vi a1), (2, vi a2), (3, vi a3), (10, vi ((v1 + 1 : Nat) : Int))] [some (.row 1 (List.map vi (List.set (List.set v2 ((a1 + (v1 : Int)).toNat) (ix v2 ((a2 + (v1 : Int)).toNat))) ((a2 + (v1 : Int)).toNat) (ix v2 ((a1 + (v1 : Int)).toNat))))), some (.row 1 [vi a4]), some (.row 1 [eS 1 vi a5]), some (.row 1 [vi a6])] ?_
    exact Vs.intro (Sees.less (.cons (by simp only [List.length_set]; rfl) (.cons rfl (.cons rfl (.cons rfl (.cons rfl .nil)))))) ⟨(v1 + 1, (List.set (List.set v2 ((a1 + (v1 : Int)).toNat) (ix v2 ((a2 + (v1 : Int)).toNat))) ((a2 + (v1 : Int)).toNat) (ix v2 ((a1 + (v1 : Int)).toNat)))), rfl, h⟩
  have h := cond_f h c1
  refine TriE.exit ?_
  have h := Option.some.inj h
  subst h
  exact DoneS.normal (S' := ⟨[], [some (.row 1 (List.map vi v2)), some (.row 1 [vi a4]), some (.row 1 [eS 1 vi a5]), some (.row 1 [vi a6])]⟩) sy rfl rfl
theorem slices_rotateCmpFunc_int_ok (n : Nat) (a0 : List Int) (a1 : Int) (a2 : Int) (a3 : Int) (a4 : Int) (a5 : List Int) (a6 : Int) (r : (List Int)) (h : slices_rotateCmpFunc_int n a0 a1 a2 a3 a4 a5 a6 = some r) : FnL Try.prog 72 [.own 0 0 a0.length, vi a1, vi a2, vi a3, .fn (.func 21) [] [.ptr 1 0 0, .ptr 2 0 0, .ptr 3 0 0]] [some (.row 1 (List.map vi a0)), some (.row 1 [vi a4]), some (.row 1 [eS 1 vi a5]), some (.row 1 [vi a6])] (.tup []) [some (.row 1 (List.map vi r)), some (.row 1 [vi a4]), some (.row 1 [eS 1 vi a5]), some (.row 1 [vi a6])] := by
  dsimp only [slices_rotateCmpFunc_int] at h
  refine FnL.ofS (ts := []) Try.call72 Try.func72 rfl rfl (Nat.le_of_ble_eq_true rfl) (Nat.le_of_ble_eq_true rfl) (hall_of (.cons rfl (.cons rfl (.cons rfl (.cons rfl .nil))))) ?_
  refine sj ?_
  refine rn 2 [(0, .own 0 0 a0.length), (2, vi a2), (3, vi a3), (4, .fn (.func 21) [] [.ptr 1 0 0, .ptr 2 0 0, .ptr 3 0 0]), (12, vi a2), (13, vi a1)] [some (.row 1 (List.map vi a0)), some (.row 1 [vi a4]), some (.row 1 [eS 1 vi a5]), some (.row 1 [vi a6])] ?_
  obtain ⟨c1, h⟩ := chk_some h
  refine jv (vi (a2 - a1)) (cy (I0 14 (.bin .sub false (.t 12) (.t 13)))) (r_sub rfl rfl c1) rfl ?_
  refine jq 1 [(0, .own 0 0 a0.length), (2, vi a2), (3, vi a3), (4, .fn (.func 21) [] [.ptr 1 0 0, .ptr 2 0 0, .ptr 3 0 0]), (10, vi (a2 - a1))] [some (.row 1 (List.map vi a0)), some (.row 1 [vi a4]), some (.row 1 [eS 1 vi a5]), some (.row 1 [vi a6])] ?_
  refine sj ?_
  refine rn 2 [(0, .own 0 0 a0.length), (2, vi a2), (4, .fn (.func 21) [] [.ptr 1 0 0, .ptr 2 0 0, .ptr 3 0 0]), (10, vi (a2 - a1)), (15, vi a3), (16, vi a2)] [some (.row 1 (List.map vi a0)), some (.row 1 [vi a4]), some (.row 1 [eS 1 vi a5]), some (.row 1 [vi a6])] ?_
  obtain ⟨c2, h⟩ := chk_some h
  refine jv (vi (a3 - a2)) (cy (I0 17 (.bin .sub false (.t 15) (.t 16)))) (r_sub rfl rfl c2) rfl ?_
  refine jq 1 [(0, .own 0 0 a0.length), (2, vi a2), (4, .fn (.func 21) [] [.ptr 1 0 0, .ptr 2 0 0, .ptr 3 0 0]), (10, vi (a2 - a1)), (11, vi (a3 - a2))] [some (.row 1 (List.map vi a0)), some (.row 1 [vi a4]), some (.row 1 [eS 1 vi a5]), some (.row 1 [vi a6])] ?_
  refine TriE.seqK h (fun (t : Int × (List Int)) => match t with | (v8, v9) => St.mk [(0, .own 0 0 v9.length), (2, vi a2), (4, .fn (.func 21) [] [.ptr 1 0 0, .ptr 2 0 0, .ptr 3 0 0]), (10, vi v8)] [some (.row 1 (List.map vi v9)), some (.row 1 [vi a4]), some (.row 1 [eS 1 vi a5]), some (.row 1 [vi a6])]) ?_ ?_
  · rintro ⟨v8, v9⟩ h
    refine TriE.regJ ?_
    refine rn 3 [(2, vi a2), (4, .fn (.func 21) [] [.ptr 1 0 0, .ptr 2 0 0, .ptr 3 0 0]), (10, vi v8), (50, .own 0 0 v9.length), (51, vi a2), (52, vi v8)] [some (.row 1 (List.map vi v9)), some (.row 1 [vi a4]), some (.row 1 [eS 1 vi a5]), some (.row 1 [vi a6])] ?_
    obtain ⟨c13, h⟩ := chk_some h
    refine jv (vi (a2 - v8)) (cy (I0 53 (.bin .sub false (.t 51) (.t 52)))) (r_sub rfl rfl c13) rfl ?_
    refine rn 3 [(50, .own 0 0 v9.length), (53, vi (a2 - v8)), (54, vi a2), (55, vi v8), (56, .fn (.func 21) [] [.ptr 1 0 0, .ptr 2 0 0, .ptr 3 0 0])] [some (.row 1 (List.map vi v9)), some (.row 1 [vi a4]), some (.row 1 [eS 1 vi a5]), some (.row 1 [vi a6])] ?_
    obtain ⟨y10, hy10, h⟩ := bind_some h
    refine RegJ.op (Op1.call (y' := .tup []) (obx := [some (.row 1 (List.map vi v9)), some (.row 1 [vi a4]), some (.row 1 [eS 1 vi a5]), some (.row 1 [vi a6])]) (oby := [some (.row 1 (List.map vi y10)), some (.row 1 [vi a4]), some (.row 1 [eS 1 vi a5]), some (.row 1 [vi a6])]) (ob2 := [some (.row 1 (List.map vi y10)), some (.row 1 [vi a4]), some (.row 1 [eS 1 vi a5]), some (.row 1 [vi a6])]) _ _ (cy (I0 57 (.call 90 [(.t 50), (.t 53), (.t 54), (.t 55), (.t 56)]))) rfl (slices_swapRangeCmpFunc_int_ok n v9 (a2 - v8) a2 v8 a4 a5 a6 y10 hy10) [0, 1, 2, 3] (by kernel_rfl) (.cons rfl (.cons rfl (.cons rfl (.cons rfl (.cons rfl (.cons rfl .nil)))))) (by kernel_rfl) (by kernel_rfl) (.same (row_ren vi_frz _ _ _) (.cons rfl (.cons rfl (.cons rfl .nil)))) (by kernel_rfl) (.same (row_ren vi_frz _ _ _) (.cons rfl (.cons rfl (.cons rfl .nil)))) (by kernel_rfl)) ?_
    obtain ⟨c14, h⟩ := chk_some h
    refine RegJ.sees (S' := ⟨[(50, .own 0 0 y10.length), (53, vi (a2 - v8)), (54, vi a2), (55, vi v8), (56, .fn (.func 21) [] [.ptr 1 0 0, .ptr 2 0 0, .ptr 3 0 0]), (57, .tup [])], [some (.row 1 (List.map vi y10)), some (.row 1 [vi a4]), some (.row 1 [eS 1 vi a5]), some (.row 1 [vi a6])]⟩) (Sees.cov (Cov.mk2 (rs := [0, 1, 2, 3]) (by decide) rfl rfl (.cons (.inl (by rw [show v9.length = y10.length from of_decide_eq_true c14]; rfl)) (.cons (.inl rfl) (.cons (.inl rfl) (.cons (.inl rfl) (.cons (.inl rfl) (.cons (.inl rfl) .nil)))))) (obRen_row vi_frz rfl (.cons rfl (.cons rfl (.cons rfl .nil)))))) ?_
    refine jp [] ?_
    have h := Option.some.inj h
    subst h
    exact DoneS.normal (S' := ⟨[], [some (.row 1 (List.map vi y10)), some (.row 1 [vi a4]), some (.row 1 [eS 1 vi a5]), some (.row 1 [vi a6])]⟩) Sees.refl rfl rfl
  intro k1 h
  refine TriE.block ?_
  refine TriE.loopN h (fun (t : Int × (List Int) × Int) => match t with | (v3, v4, v5) => St.mk [(0, .own 0 0 v4.length), (2, vi a2), (4, .fn (.func 21) [] [.ptr 1 0 0, .ptr 2 0 0, .ptr 3 0 0]), (10, vi v3), (11, vi v5)] [some (.row 1 (List.map vi v4)), some (.row 1 [vi a4]), some (.row 1 [eS 1 vi a5]), some (.row 1 [vi a6])]) rfl ?_
  clear h
  rintro back ⟨v3, v4, v5⟩ h
  dsimp only [slices_rotateCmpFunc_int_L1] at h
  refine TriE.seq ?_
  refine sr [(0, .own 0 0 v4.length), (2, vi a2), (4, .fn (.func 21) [] [.ptr 1 0 0, .ptr 2 0 0, .ptr 3 0 0]), (10, vi v3), (11, vi v5), (20, vb (v3 != v5))] [some (.row 1 (List.map vi v4)), some (.row 1 [vi a4]), some (.row 1 [eS 1 vi a5]), some (.row 1 [vi a6])] ?_
  refine TriE.cond (b := (v3 != v5)) rfl (fun c3 => ?_) (fun c3 => ?_)
  · have h := cond_t h c3
    refine TriE.skip ?_
    refine TriE.block ?_
    refine sr [(0, .own 0 0 v4.length), (2, vi a2), (4, .fn (.func 21) [] [.ptr 1 0 0, .ptr 2 0 0, .ptr 3 0 0]), (10, vi v3), (11, vi v5), (23, vb (decide (v5 < v3)))] [some (.row 1 (List.map vi v4)), some (.row 1 [vi a4]), some (.row 1 [eS 1 vi a5]), some (.row 1 [vi a6])] ?_
    refine TriE.cond (b := decide (v5 < v3)) rfl (fun c4 => ?_) (fun c4 => ?_)
    · have h := cond_t h c4
      refine sj ?_
      refine rn 3 [(0, .own 0 0 v4.length), (2, vi a2), (4, .fn (.func 21) [] [.ptr 1 0 0, .ptr 2 0 0, .ptr 3 0 0]), (10, vi v3), (11, vi v5), (24, .own 0 0 v4.length), (25, vi a2), (26, vi v3)] [some (.row 1 (List.map vi v4)), some (.row 1 [vi a4]), some (.row 1 [eS 1 vi a5]), some (.row 1 [vi a6])] ?_
      obtain ⟨c5, h⟩ := chk_some h
      refine jv (vi (a2 - v3)) (cy (I0 27 (.bin .sub false (.t 25) (.t 26)))) (r_sub rfl rfl c5) rfl ?_
      refine rn 3 [(0, .own 0 0 v4.length), (2, vi a2), (4, .fn (.func 21) [] [.ptr 1 0 0, .ptr 2 0 0, .ptr 3 0 0]), (10, vi v3), (11, vi v5), (24, .own 0 0 v4.length), (27, vi (a2 - v3)), (28, vi a2), (29, vi v5), (30, .fn (.func 21) [] [.ptr 1 0 0, .ptr 2 0 0, .ptr 3 0 0])] [some (.row 1 (List.map vi v4)), some (.row 1 [vi a4]), some (.row 1 [eS 1 vi a5]), some (.row 1 [vi a6])] ?_
      obtain ⟨y6, hy6, h⟩ := bind_some h
      refine RegJ.op (Op1.call (y' := .tup []) (obx := [some (.row 1 (List.map vi v4)), some (.row 1 [vi a4]), some (.row 1 [eS 1 vi a5]), some (.row 1 [vi a6])]) (oby := [some (.row 1 (List.map vi y6)), some (.row 1 [vi a4]), some (.row 1 [eS 1 vi a5]), some (.row 1 [vi a6])]) (ob2 := [some (.row 1 (List.map vi y6)), some (.row 1 [vi a4]), some (.row 1 [eS 1 vi a5]), some (.row 1 [vi a6])]) _ _ (cy (I0 31 (.call 90 [(.t 24), (.t 27), (.t 28), (.t 29), (.t 30)]))) rfl (slices_swapRangeCmpFunc_int_ok n v4 (a2 - v3) a2 v5 a4 a5 a6 y6 hy6) [0, 1, 2, 3] (by kernel_rfl) (.cons rfl (.cons rfl (.cons rfl (.cons rfl (.cons rfl (.cons rfl .nil)))))) (by kernel_rfl) (by kernel_rfl) (.same (row_ren vi_frz _ _ _) (.cons rfl (.cons rfl (.cons rfl .nil)))) (by kernel_rfl) (.same (row_ren vi_frz _ _ _) (.cons rfl (.cons rfl (.cons rfl .nil)))) (by kernel_rfl)) ?_
      obtain ⟨c6, h⟩ := chk_some h
      refine RegJ.sees (S' := ⟨[(0, .own 0 0 y6.length), (2, vi a2), (4, .fn (.func 21) [] [.ptr 1 0 0, .ptr 2 0 0, .ptr 3 0 0]), (10, vi v3), (11, vi v5), (24, .own 0 0 y6.length), (27, vi (a2 - v3)), (28, vi a2), (29, vi v5), (30, .fn (.func 21) [] [.ptr 1 0 0, .ptr 2 0 0, .ptr 3 0 0]), (31, .tup [])], [some (.row 1 (List.map vi y6)), some (.row 1 [vi a4]), some (.row 1 [eS 1 vi a5]), some (.row 1 [vi a6])]⟩) (Sees.cov (Cov.mk2 (rs := [0, 1, 2, 3]) (by decide) rfl rfl (.cons (.inl (by rw [show v4.length = y6.length from of_decide_eq_true c6]; rfl)) (.cons (.inl rfl) (.cons (.inl rfl) (.cons (.inl rfl) (.cons (.inl rfl) (.cons (.inl (by rw [show v4.length = y6.length from of_decide_eq_true c6]; rfl)) (.cons (.inl rfl) (.cons (.inl rfl) (.cons (.inl rfl) (.cons (.inl rfl) (.cons (.inl rfl) .nil))))))))))) (obRen_row vi_frz rfl (.cons rfl (.cons rfl (.cons rfl .nil)))))) ?_
      refine jp [(0, .own 0 0 y6.length), (2, vi a2), (4, .fn (.func 21) [] [.ptr 1 0 0, .ptr 2 0 0, .ptr 3 0 0]), (10, vi v3), (11, vi v5)] ?_
      refine TriE.regJ ?_
      refine rn 2 [(0, .own 0 0 y6.length), (2, vi a2), (4, .fn (.func 21) [] [.ptr 1 0 0, .ptr 2 0 0, .ptr 3 0 0]), (11, vi v5), (32, vi v3), (33, vi v5)] [some (.row 1 (List.map vi y6)), some (.row 1 [vi a4]), some (.row 1 [eS 1 vi a5]), some (.row 1 [vi a6])] ?_
      obtain ⟨c7, h⟩ := chk_some h
      refine jv (vi (v3 - v5)) (cy (I0 34 (.bin .sub false (.t 32) (.t 33)))) (r_sub rfl rfl c7) rfl ?_
      refine jq 1 [(0, .own 0 0 y6.length), (2, vi a2), (4, .fn (.func 21) [] [.ptr 1 0 0, .ptr 2 0 0, .ptr 3 0 0]), (11, vi v5), (10, vi (v3 - v5))] [some (.row 1 (List.map vi y6)), some (.row 1 [vi a4]), some (.row 1 [eS 1 vi a5]), some (.row 1 [vi a6])] ?_
      exact Vs.intro sy ⟨(v3 - v5, y6, v5), rfl, h⟩
    have h := cond_f h c4
    refine sj ?_
    refine rn 3 [(0, .own 0 0 v4.length), (2, vi a2), (4, .fn (.func 21) [] [.ptr 1 0 0, .ptr 2 0 0, .ptr 3 0 0]), (10, vi v3), (11, vi v5), (35, .own 0 0 v4.length), (36, vi a2), (37, vi v3)] [some (.row 1 (List.map vi v4)), some (.row 1 [vi a4]), some (.row 1 [eS 1 vi a5]), some (.row 1 [vi a6])] ?_
    obtain ⟨c8, h⟩ := chk_some h
    refine jv (vi (a2 - v3)) (cy (I0 38 (.bin .sub false (.t 36) (.t 37)))) (r_sub rfl rfl c8) rfl ?_
    refine rn 2 [(0, .own 0 0 v4.length), (2, vi a2), (4, .fn (.func 21) [] [.ptr 1 0 0, .ptr 2 0 0, .ptr 3 0 0]), (10, vi v3), (11, vi v5), (35, .own 0 0 v4.length), (38, vi (a2 - v3)), (39, vi a2), (40, vi v5)] [some (.row 1 (List.map vi v4)), some (.row 1 [vi a4]), some (.row 1 [eS 1 vi a5]), some (.row 1 [vi a6])] ?_
    obtain ⟨c9, h⟩ := chk_some h
    refine jv (vi (a2 + v5)) (cy (I0 41 (.bin .add false (.t 39) (.t 40)))) (r_add rfl rfl c9) rfl ?_
    refine rn 1 [(0, .own 0 0 v4.length), (2, vi a2), (4, .fn (.func 21) [] [.ptr 1 0 0, .ptr 2 0 0, .ptr 3 0 0]), (10, vi v3), (11, vi v5), (35, .own 0 0 v4.length), (38, vi (a2 - v3)), (41, vi (a2 + v5)), (42, vi v3)] [some (.row 1 (List.map vi v4)), some (.row 1 [vi a4]), some (.row 1 [eS 1 vi a5]), some (.row 1 [vi a6])] ?_
    obtain ⟨c10, h⟩ := chk_some h
    refine jv (vi ((a2 + v5) - v3)) (cy (I0 43 (.bin .sub false (.t 41) (.t 42)))) (r_sub rfl rfl c10) rfl ?_
    refine rn 2 [(0, .own 0 0 v4.length), (2, vi a2), (4, .fn (.func 21) [] [.ptr 1 0 0, .ptr 2 0 0, .ptr 3 0 0]), (10, vi v3), (11, vi v5), (35, .own 0 0 v4.length), (38, vi (a2 - v3)), (43, vi ((a2 + v5) - v3)), (44, vi v3), (45, .fn (.func 21) [] [.ptr 1 0 0, .ptr 2 0 0, .ptr 3 0 0])] [some (.row 1 (List.map vi v4)), some (.row 1 [vi a4]), some (.row 1 [eS 1 vi a5]), some (.row 1 [vi a6])] ?_
    obtain ⟨y7, hy7, h⟩ := bind_some h
    refine RegJ.op (Op1.call (y' := .tup []) (obx := [some (.row 1 (List.map vi v4)), some (.row 1 [vi a4]), some (.row 1 [eS 1 vi a5]), some (.row 1 [vi a6])]) (oby := [some (.row 1 (List.map vi y7)), some (.row 1 [vi a4]), some (.row 1 [eS 1 vi a5]), some (.row 1 [vi a6])]) (ob2 := [some (.row 1 (List.map vi y7)), some (.row 1 [vi a4]), some (.row 1 [eS 1 vi a5]), some (.row 1 [vi a6])]) _ _ (cy (I0 46 (.call 90 [(.t 35), (.t 38), (.t 43), (.t 44), (.t 45)]))) rfl (slices_swapRangeCmpFunc_int_ok n v4 (a2 - v3) ((a2 + v5) - v3) v3 a4 a5 a6 y7 hy7) [0, 1, 2, 3] (by kernel_rfl) (.cons rfl (.cons rfl (.cons rfl (.cons rfl (.cons rfl (.cons rfl .nil)))))) (by kernel_rfl) (by kernel_rfl) (.same (row_ren vi_frz _ _ _) (.cons rfl (.cons rfl (.cons rfl .nil)))) (by kernel_rfl) (.same (row_ren vi_frz _ _ _) (.cons rfl (.cons rfl (.cons rfl .nil)))) (by kernel_rfl)) ?_
    obtain ⟨c11, h⟩ := chk_some h
    refine RegJ.sees (S' := ⟨[(0, .own 0 0 y7.length), (2, vi a2), (4, .fn (.func 21) [] [.ptr 1 0 0, .ptr 2 0 0, .ptr 3 0 0]), (10, vi v3), (11, vi v5), (35, .own 0 0 y7.length), (38, vi (a2 - v3)), (43, vi ((a2 + v5) - v3)), (44, vi v3), (45, .fn (.func 21) [] [.ptr 1 0 0, .ptr 2 0 0, .ptr 3 0 0]), (46, .tup [])], [some (.row 1 (List.map vi y7)), some (.row 1 [vi a4]), some (.row 1 [eS 1 vi a5]), some (.row 1 [vi a6])]⟩) (Sees.cov (Cov.mk2 (rs := [0, 1, 2, 3]) (by decide) rfl rfl (.cons (.inl (by rw [show v4.length = y7.length from of_decide_eq_true c11]; rfl)) (.cons (.inl rfl) (.cons (.inl rfl) (.cons (.inl rfl) (.cons (.inl rfl) (.cons (.inl (by rw [show v4.length = y7.length from of_decide_eq_true c11]; rfl)) (.cons (.inl rfl) (.cons (.inl rfl) (.cons (.inl rfl) (.cons (.inl rfl) (.cons (.inl rfl) .nil))))))))))) (obRen_row vi_frz rfl (.cons rfl (.cons rfl (.cons rfl .nil)))))) ?_
    refine jp [(0, .own 0 0 y7.length), (2, vi a2), (4, .fn (.func 21) [] [.ptr 1 0 0, .ptr 2 0 0, .ptr 3 0 0]), (10, vi v3), (11, vi v5)] ?_
    refine TriE.regJ ?_
    refine rn 2 [(0, .own 0 0 y7.length), (2, vi a2), (4, .fn (.func 21) [] [.ptr 1 0 0, .ptr 2 0 0, .ptr 3 0 0]), (10, vi v3), (47, vi v5), (48, vi v3)] [some (.row 1 (List.map vi y7)), some (.row 1 [vi a4]), some (.row 1 [eS 1 vi a5]), some (.row 1 [vi a6])] ?_
    obtain ⟨c12, h⟩ := chk_some h
    refine jv (vi (v5 - v3)) (cy (I0 49 (.bin .sub false (.t 47) (.t 48)))) (r_sub rfl rfl c12) rfl ?_
    refine jq 1 [(0, .own 0 0 y7.length), (2, vi a2), (4, .fn (.func 21) [] [.ptr 1 0 0, .ptr 2 0 0, .ptr 3 0 0]), (10, vi v3), (11, vi (v5 - v3))] [some (.row 1 (List.map vi y7)), some (.row 1 [vi a4]), some (.row 1 [eS 1 vi a5]), some (.row 1 [vi a6])] ?_
    exact Vs.intro Sees.refl ⟨(v3, y7, v5 - v3), rfl, h⟩
  have h := cond_f h c3
  refine TriE.exit ?_
  exact Vs.intro sy ⟨(v3, v4), rfl, h⟩
theorem slices_symMergeCmpFunc_int_ok_ (n : Nat) : ∀ (fu : Nat) (a0 : List Int) (a1 : Int) (a2 : Int) (a3 : Int) (a4 : Int) (a5 : List Int) (a6 : Int) (r : (List Int)), loopN (slices_symMergeCmpFunc_int_F n) fu (a0, a1, a2, a3, a4, a5, a6) = some r → FnL Try.prog 54 [.own 0 0 a0.length, vi a1, vi a2, vi a3, .fn (.func 21) [] [.ptr 1 0 0, .ptr 2 0 0, .ptr 3 0 0]] [some (.row 1 (List.map vi a0)), some (.row 1 [vi a4]), some (.row 1 [eS 1 vi a5]), some (.row 1 [vi a6])] (.tup []) [some (.row 1 (List.map vi r)), some (.row 1 [vi a4]), some (.row 1 [eS 1 vi a5]), some (.row 1 [vi a6])] := by
  intro fu
  induction fu with
  | zero =>
    intro a0 a1 a2 a3 a4 a5 a6 r h
    cases h
  | succ fu ih =>
    intro a0 a1 a2 a3 a4 a5 a6 r h
    replace h : slices_symMergeCmpFunc_int_F n (loopN (slices_symMergeCmpFunc_int_F n) fu) (a0, a1, a2, a3, a4, a5, a6) = some r := h
    dsimp only [slices_symMergeCmpFunc_int_F] at h
    refine FnL.ofS (ts := []) Try.call54 Try.func54 rfl rfl (Nat.le_of_ble_eq_true rfl) (Nat.le_of_ble_eq_true rfl) (hall_of (.cons rfl (.cons rfl (.cons rfl (.cons rfl .nil))))) ?_
    refine TriE.seq ?_
    refine sj ?_
    refine rn 2 [(0, .own 0 0 a0.length), (1, vi a1), (2, vi a2), (3, vi a3), (4, .fn (.func 21) [] [.ptr 1 0 0, .ptr 2 0 0, .ptr 3 0 0]), (25, vi a2), (26, vi a1)] [some (.row 1 (List.map vi a0)), some (.row 1 [vi a4]), some (.row 1 [eS 1 vi a5]), some (.row 1 [vi a6])] ?_
    obtain ⟨c1, h⟩ := chk_some h
    refine jv (vi (a2 - a1)) (cy (I0 27 (.bin .sub false (.t 25) (.t 26)))) (r_sub rfl rfl c1) rfl ?_
    refine jq 1 [(0, .own 0 0 a0.length), (1, vi a1), (2, vi a2), (3, vi a3), (4, .fn (.func 21) [] [.ptr 1 0 0, .ptr 2 0 0, .ptr 3 0 0]), (28, vb ((a2 - a1) == (1 : Int)))] [some (.row 1 (List.map vi a0)), some (.row 1 [vi a4]), some (.row 1 [eS 1 vi a5]), some (.row 1 [vi a6])] ?_
    refine TriE.cond (b := ((a2 - a1) == (1 : Int))) rfl (fun c2 => ?_) (fun c2 => ?_)
    · have h := cond_t h c2
      refine sr [(0, .own 0 0 a0.length), (1, vi a1), (3, vi a3), (4, .fn (.func 21) [] [.ptr 1 0 0, .ptr 2 0 0, .ptr 3 0 0]), (10, vi a2)] [some (.row 1 (List.map vi a0)), some (.row 1 [vi a4]), some (.row 1 [eS 1 vi a5]), some (.row 1 [vi a6])] ?_
      refine sr [(0, .own 0 0 a0.length), (1, vi a1), (4, .fn (.func 21) [] [.ptr 1 0 0, .ptr 2 0 0, .ptr 3 0 0]), (10, vi a2), (11, vi a3)] [some (.row 1 (List.map vi a0)), some (.row 1 [vi a4]), some (.row 1 [eS 1 vi a5]), some (.row 1 [vi a6])] ?_
      refine TriE.seqK h (fun (v5 : Int) => St.mk [(0, .own 0 0 a0.length), (1, vi a1), (10, vi v5)] [some (.row 1 (List.map vi a0)), some (.row 1 [vi a4]), some (.row 1 [eS 1 vi a5]), some (.row 1 [vi a6])]) ?_ ?_
      · rintro v5 h
        refine TriE.seqK h (fun (v8 : (List Int)) => St.mk [] [some (.row 1 (List.map vi v8)), some (.row 1 [vi a4]), some (.row 1 [eS 1 vi a5]), some (.row 1 [vi a6])]) ?_ ?_
        · rintro v8 h
          refine TriE.ret ?_
          have h := Option.some.inj h
          subst h
          exact DoneS.ret (S' := ⟨[], [some (.row 1 (List.map vi v8)), some (.row 1 [vi a4]), some (.row 1 [eS 1 vi a5]), some (.row 1 [vi a6])]⟩) Sees.refl rfl rfl
        intro k2 h
        refine sr [(0, .own 0 0 a0.length), (10, vi v5), (13, vi a1)] [some (.row 1 (List.map vi a0)), some (.row 1 [vi a4]), some (.row 1 [eS 1 vi a5]), some (.row 1 [vi a6])] ?_
        refine TriE.block ?_
        refine TriE.loopN h (fun (t : Int × (List Int)) => match t with | (v6, v7) => St.mk [(0, .own 0 0 v7.length), (10, vi v5), (13, vi v6)] [some (.row 1 (List.map vi v7)), some (.row 1 [vi a4]), some (.row 1 [eS 1 vi a5]), some (.row 1 [vi a6])]) rfl ?_
        clear h
        rintro back ⟨v6, v7⟩ h
        dsimp only [slices_symMergeCmpFunc_int_L2] at h
        refine TriE.seq ?_
        refine sj ?_
        refine rn 2 [(0, .own 0 0 v7.length), (10, vi v5), (13, vi v6), (55, vi v6), (56, vi v5)] [some (.row 1 (List.map vi v7)), some (.row 1 [vi a4]), some (.row 1 [eS 1 vi a5]), some (.row 1 [vi a6])] ?_
        obtain ⟨c12, h⟩ := chk_some h
        refine jv (vi (v5 - 1)) (cy (I0 57 (.bin .sub false (.t 56) (.c (.p (.int .i64 1)))))) (r_sub rfl rfl c12) rfl ?_
        refine jq 1 [(0, .own 0 0 v7.length), (10, vi v5), (13, vi v6), (58, vb (decide (v6 < (v5 - 1))))] [some (.row 1 (List.map vi v7)), some (.row 1 [vi a4]), some (.row 1 [eS 1 vi a5]), some (.row 1 [vi a6])] ?_
        refine TriE.cond (b := decide (v6 < (v5 - 1))) rfl (fun c13 => ?_) (fun c13 => ?_)
        · have h := cond_t h c13
          refine TriE.skip ?_
          refine TriE.seq ?_
          refine TriE.block ?_
          refine TriE.sees (Sees.less (fr' := [(0, .own 0 0 v7.length), (10, vi v5), (13, vi v6)]) (.cons rfl (.cons rfl (.cons rfl .nil)))) ?_
          refine TriE.draw (by kernel_rfl) ?_
          refine RegD.run 4 [(64, vi v6), (63, .own 0 0 v7.length), (62, vi v6), (61, .own 0 0 v7.length), (0, .own 0 0 v7.length), (10, vi v5), (13, vi v6)] [some (.row 1 (List.map vi v7)), some (.row 1 [vi a4]), some (.row 1 [eS 1 vi a5]), some (.row 1 [vi a6]), none, none, none, none] (by kernel_rfl) ?_
          obtain ⟨c14, h⟩ := chk_some h
          refine dv (vi (v6 + 1)) (cy (I0 65 (.bin .add false (.t 64) (.c (.p (.int .i64 1)))))) (r_add rfl rfl c14) rfl ?_
          refine RegD.run 2 [(67, vi v6), (66, .own 0 0 v7.length), (65, vi (v6 + 1)), (64, vi v6), (63, .own 0 0 v7.length), (62, vi v6), (61, .own 0 0 v7.length), (0, .own 0 0 v7.length), (10, vi v5), (13, vi v6)] [some (.row 1 (List.map vi v7)), some (.row 1 [vi a4]), some (.row 1 [eS 1 vi a5]), some (.row 1 [vi a6]), none, none, none, none, none, none, none] (by kernel_rfl) ?_
          refine dv (vi (v6 + 1)) (cy (I0 68 (.bin .add false (.t 67) (.c (.p (.int .i64 1)))))) (r_add rfl rfl c14) rfl ?_
          obtain ⟨c15, h⟩ := chk_some h
          refine dv (.ptr 0 ((v6 + 1).toNat) 0) (cy (I0 69 (.iaddr 1 (.t 66) (.t 68)))) (ok_iaddr_o0 (j := (v6 + 1).toNat) rfl rfl rfl (inB_to c15) (inB_lt c15)) rfl ?_
          obtain ⟨c16, h⟩ := chk_some h
          refine dv (vi (ix v7 ((v6 + 1).toNat))) (cy (I0 70 (.load false 1 (.t 69)))) (ok_load_pm (l := v7) (e := vi) (v := vi (ix v7 ((v6 + 1).toNat))) rfl rfl c16 rfl) rfl ?_
          refine RegD.run 2 [(72, vi v6), (71, .own 0 0 v7.length), (70, vi (ix v7 ((v6 + 1).toNat))), (69, .ptr 0 ((v6 + 1).toNat) 0), (68, vi (v6 + 1)), (67, vi v6), (66, .own 0 0 v7.length), (65, vi (v6 + 1)), (64, vi v6), (63, .own 0 0 v7.length), (62, vi v6), (61, .own 0 0 v7.length), (0, .own 0 0 v7.length), (10, vi v5), (13, vi v6)] [some (.row 1 (List.map vi v7)), some (.row 1 [vi a4]), some (.row 1 [eS 1 vi a5]), some (.row 1 [vi a6]), none, none, none, none, none, none, none, none, none, none, none, none] (by kernel_rfl) ?_
          obtain ⟨c17, h⟩ := chk_some h
          refine dv (.ptr 0 v6.toNat 0) (cy (I0 73 (.iaddr 1 (.t 71) (.t 72)))) (ok_iaddr_o0 (j := v6.toNat) rfl rfl rfl (inB_to c17) (inB_lt c17)) rfl ?_
          obtain ⟨c18, h⟩ := chk_some h
          refine dv (vi (ix v7 v6.toNat)) (cy (I0 74 (.load false 1 (.t 73)))) (ok_load_pm (l := v7) (e := vi) (v := vi (ix v7 v6.toNat)) rfl rfl c18 rfl) rfl ?_
          refine dv (.ptr 0 v6.toNat 0) (cy (I0 75 (.iaddr 1 (.t 61) (.t 62)))) (ok_iaddr_o0 (j := v6.toNat) rfl rfl rfl (inB_to c17) (inB_lt c17)) rfl ?_
          refine de (.undef) [some (.row 1 (List.map vi (List.set v7 v6.toNat (ix v7 ((v6 + 1).toNat))))), some (.row 1 [vi a4]), some (.row 1 [eS 1 vi a5]), some (.row 1 [vi a6]), none, none, none, none, none, none, none, none, none, none, none, none, none, none, none, none] (cy (IN (.store 1 (.t 75) (.t 70)))) (ok_store_m (l := v7) (e := vi) (x' := (ix v7 ((v6 + 1).toNat))) (u := vi (ix v7 ((v6 + 1).toNat))) rfl rfl rfl c18 rfl rfl) rfl rfl rfl ?_
          refine dv (.ptr 0 ((v6 + 1).toNat) 0) (cy (I0 76 (.iaddr 1 (.t 63) (.t 65)))) (ok_iaddr_o0 (j := (v6 + 1).toNat) rfl rfl rfl (inB_to c15) (inB_lt c15)) rfl ?_
          obtain ⟨c19, h⟩ := chk_some h
          refine de (.undef) [some (.row 1 (List.map vi (List.set (List.set v7 v6.toNat (ix v7 ((v6 + 1).toNat))) ((v6 + 1).toNat) (ix v7 v6.toNat)))), some (.row 1 [vi a4]), some (.row 1 [eS 1 vi a5]), some (.row 1 [vi a6]), none, none, none, none, none, none, none, none, none, none, none, none, none, none, none, none, none, none] (cy (IN (.store 1 (.t 76) (.t 74)))) (ok_store_m (l := (List.set v7 v6.toNat (ix v7 ((v6 + 1).toNat)))) (e := vi) (x' := (ix v7 v6.toNat)) (u := vi (ix v7 v6.toNat)) rfl rfl rfl c19 rfl rfl) rfl rfl rfl ?_
          refine RegD.done rfl (by kernel_rfl) (S' := ⟨[(0, .own 0 0 v7.length), (10, vi v5), (13, vi v6)], [some (.row 1 (List.map vi (List.set (List.set v7 v6.toNat (ix v7 ((v6 + 1).toNat))) ((v6 + 1).toNat) (ix v7 v6.toNat)))), some (.row 1 [vi a4]), some (.row 1 [eS 1 vi a5]), some (.row 1 [vi a6])]⟩) (sc [0, 1, 2, 3] (by decide) (by kernel_rfl) (obRen_row vi_frz rfl (.cons rfl (.cons rfl (.cons rfl .nil)))) rfl rfl) ?_
          refine TriE.regJ ?_
          refine rn 1 [(0, .own 0 0 v7.length), (10, vi v5), (59, vi v6)] [some (.row 1 (List.map vi (List.set (List.set v7 v6.toNat (ix v7 ((v6 + 1).toNat))) ((v6 + 1).toNat) (ix v7 v6.toNat)))), some (.row 1 [vi a4]), some (.row 1 [eS 1 vi a5]), some (.row 1 [vi a6])] ?_
          refine jv (vi (v6 + 1)) (cy (I0 60 (.bin .add false (.t 59) (.c (.p (.int .i64 1)))))) (r_add rfl rfl c14) rfl ?_
          refine jq 1 [(0, .own 0 0 v7.length), (10, vi v5), (13, vi (v6 + 1))] [some (.row 1 (List.map vi (List.set (List.set v7 v6.toNat (ix v7 ((v6 + 1).toNat))) ((v6 + 1).toNat) (ix v7 v6.toNat)))), some (.row 1 [vi a4]), some (.row 1 [eS 1 vi a5]), some (.row 1 [vi a6])] ?_
          exact Vs.intro (Sees.less (.cons (by simp only [List.length_set]; rfl) (.cons rfl (.cons rfl .nil)))) ⟨(v6 + 1, (List.set (List.set v7 v6.toNat (ix v7 ((v6 + 1).toNat))) ((v6 + 1).toNat) (ix v7 v6.toNat))), rfl, h⟩
        have h := cond_f h c13
        refine TriE.exit ?_
        exact Vs.intro sy ⟨v7, rfl, h⟩
      intro k1 h
      refine TriE.block ?_
      refine TriE.loopN h (fun (t : Int × Int) => match t with | (v2, v3) => St.mk [(0, .own 0 0 a0.length), (1, vi a1), (4, .fn (.func 21) [] [.ptr 1 0 0, .ptr 2 0 0, .ptr 3 0 0]), (10, vi v2), (11, vi v3)] [some (.row 1 (List.map vi a0)), some (.row 1 [vi a4]), some (.row 1 [eS 1 vi a5]), some (.row 1 [vi a6])]) rfl ?_
      clear h
      rintro back ⟨v2, v3⟩ h
      dsimp only [slices_symMergeCmpFunc_int_L1] at h
      refine TriE.seq ?_
      refine sr [(0, .own 0 0 a0.length), (1, vi a1), (4, .fn (.func 21) [] [.ptr 1 0 0, .ptr 2 0 0, .ptr 3 0 0]), (10, vi v2), (11, vi v3), (33, vb (decide (v2 < v3)))] [some (.row 1 (List.map vi a0)), some (.row 1 [vi a4]), some (.row 1 [eS 1 vi a5]), some (.row 1 [vi a6])] ?_
      refine TriE.cond (b := decide (v2 < v3)) rfl (fun c3 => ?_) (fun c3 => ?_)
      · have h := cond_t h c3
        refine TriE.skip ?_
        refine TriE.block ?_
        refine sj ?_
        refine rn 2 [(0, .own 0 0 a0.length), (1, vi a1), (4, .fn (.func 21) [] [.ptr 1 0 0, .ptr 2 0 0, .ptr 3 0 0]), (10, vi v2), (11, vi v3), (34, vi v2), (35, vi v3)] [some (.row 1 (List.map vi a0)), some (.row 1 [vi a4]), some (.row 1 [eS 1 vi a5]), some (.row 1 [vi a6])] ?_
        obtain ⟨c4, h⟩ := chk_some h
        refine jv (vi (v2 + v3)) (cy (I0 36 (.bin .add false (.t 34) (.t 35)))) (r_add rfl rfl c4) rfl ?_
        refine rn 2 [(0, .own 0 0 a0.length), (1, vi a1), (4, .fn (.func 21) [] [.ptr 1 0 0, .ptr 2 0 0, .ptr 3 0 0]), (10, vi v2), (11, vi v3), (38, vk .u64 (Int.fdiv (IntKind.u64.wrap (v2 + v3)) (2 ^ (min 1 64))))] [some (.row 1 (List.map vi a0)), some (.row 1 [vi a4]), some (.row 1 [eS 1 vi a5]), some (.row 1 [vi a6])] ?_
        obtain ⟨c5, h⟩ := chk_some h
        refine jv (vi (Int.fdiv (IntKind.u64.wrap (v2 + v3)) (2 ^ (min 1 64)))) (cy (I0 39 (.conv .i64 (.t 38)))) (ok_conv64 rfl c5) rfl ?_
        refine jq 1 [(0, .own 0 0 a0.length), (1, vi a1), (4, .fn (.func 21) [] [.ptr 1 0 0, .ptr 2 0 0, .ptr 3 0 0]), (10, vi v2), (11, vi v3), (12, vi (Int.fdiv (IntKind.u64.wrap (v2 + v3)) (2 ^ (min 1 64))))] [some (.row 1 (List.map vi a0)), some (.row 1 [vi a4]), some (.row 1 [eS 1 vi a5]), some (.row 1 [vi a6])] ?_
        refine TriE.seq ?_
        refine TriE.sees (Sees.less (fr' := [(0, .own 0 0 a0.length), (1, vi a1), (4, .fn (.func 21) [] [.ptr 1 0 0, .ptr 2 0 0, .ptr 3 0 0]), (10, vi v2), (11, vi v3), (12, vi (Int.fdiv (IntKind.u64.wrap (v2 + v3)) (2 ^ (min 1 64))))]) (.cons rfl (.cons rfl (.cons rfl (.cons rfl (.cons rfl (.cons rfl .nil))))))) ?_
        refine TriE.draw (by kernel_rfl) ?_
        refine RegD.run 3 [(42, vi (Int.fdiv (IntKind.u64.wrap (v2 + v3)) (2 ^ (min 1 64)))), (41, .own 0 0 a0.length), (40, .fn (.func 21) [] [.ptr 1 0 0, .ptr 2 0 0, .ptr 3 0 0]), (0, .own 0 0 a0.length), (1, vi a1), (4, .fn (.func 21) [] [.ptr 1 0 0, .ptr 2 0 0, .ptr 3 0 0]), (10, vi v2), (11, vi v3), (12, vi (Int.fdiv (IntKind.u64.wrap (v2 + v3)) (2 ^ (min 1 64))))] [some (.row 1 (List.map vi a0)), some (.row 1 [vi a4]), some (.row 1 [eS 1 vi a5]), some (.row 1 [vi a6]), none, none, none] (by kernel_rfl) ?_
        obtain ⟨c6, h⟩ := chk_some h
        refine dv (.ptr 0 ((Int.fdiv (IntKind.u64.wrap (v2 + v3)) (2 ^ (min 1 64))).toNat) 0) (cy (I0 43 (.iaddr 1 (.t 41) (.t 42)))) (ok_iaddr_o0 (j := (Int.fdiv (IntKind.u64.wrap (v2 + v3)) (2 ^ (min 1 64))).toNat) rfl rfl rfl (inB_to c6) (inB_lt c6)) rfl ?_
        obtain ⟨c7, h⟩ := chk_some h
        refine dv (vi (ix a0 ((Int.fdiv (IntKind.u64.wrap (v2 + v3)) (2 ^ (min 1 64))).toNat))) (cy (I0 44 (.load false 1 (.t 43)))) (ok_load_pm (l := a0) (e := vi) (v := vi (ix a0 ((Int.fdiv (IntKind.u64.wrap (v2 + v3)) (2 ^ (min 1 64))).toNat))) rfl rfl c7 rfl) rfl ?_
        refine RegD.run 2 [(46, vi a1), (45, .own 0 0 a0.length), (44, vi (ix a0 ((Int.fdiv (IntKind.u64.wrap (v2 + v3)) (2 ^ (min 1 64))).toNat))), (43, .ptr 0 ((Int.fdiv (IntKind.u64.wrap (v2 + v3)) (2 ^ (min 1 64))).toNat) 0), (42, vi (Int.fdiv (IntKind.u64.wrap (v2 + v3)) (2 ^ (min 1 64)))), (41, .own 0 0 a0.length), (40, .fn (.func 21) [] [.ptr 1 0 0, .ptr 2 0 0, .ptr 3 0 0]), (0, .own 0 0 a0.length), (1, vi a1), (4, .fn (.func 21) [] [.ptr 1 0 0, .ptr 2 0 0, .ptr 3 0 0]), (10, vi v2), (11, vi v3), (12, vi (Int.fdiv (IntKind.u64.wrap (v2 + v3)) (2 ^ (min 1 64))))] [some (.row 1 (List.map vi a0)), some (.row 1 [vi a4]), some (.row 1 [eS 1 vi a5]), some (.row 1 [vi a6]), none, none, none, none, none, none, none] (by kernel_rfl) ?_
        obtain ⟨c8, h⟩ := chk_some h
        refine dv (.ptr 0 a1.toNat 0) (cy (I0 47 (.iaddr 1 (.t 45) (.t 46)))) (ok_iaddr_o0 (j := a1.toNat) rfl rfl rfl (inB_to c8) (inB_lt c8)) rfl ?_
        obtain ⟨c9, h⟩ := chk_some h
        refine dv (vi (ix a0 a1.toNat)) (cy (I0 48 (.load false 1 (.t 47)))) (ok_load_pm (l := a0) (e := vi) (v := vi (ix a0 a1.toNat)) rfl rfl c9 rfl) rfl ?_
        obtain ⟨y4, hy4, h⟩ := bind_some h
        refine RegD.op (OpD.dyn (y' := vi y4) (obx := [some (.row 1 [vi a4]), some (.row 1 [eS 1 vi a5]), some (.row 1 [vi a6])]) (oby := [some (.row 1 [vi a4]), some (.row 1 [eS 1 vi a5]), some (.row 1 [vi a6])]) (ob2 := [some (.row 1 (List.map vi a0)), some (.row 1 [vi a4]), some (.row 1 [eS 1 vi a5]), some (.row 1 [vi a6]), none, none, none, none, none, none, none, none, none, none]) (tch := []) 0 _ _ _ (cy (I0 49 (.dyn (.t 40) [(.t 44), (.t 48)]))) rfl (restore_Split_f2_ok n (ix a0 ((Int.fdiv (IntKind.u64.wrap (v2 + v3)) (2 ^ (min 1 64))).toNat)) (ix a0 a1.toNat) a4 a5 a6 y4 hy4) [1, 2, 3] (by kernel_rfl) (.cons rfl (.cons rfl (.cons rfl .nil))) (by kernel_rfl) (by kernel_rfl) (.cons rfl (.cons rfl (.cons rfl .nil))) (by kernel_rfl) (.cons rfl (.cons rfl (.cons rfl .nil))) (by kernel_rfl) rfl (.inr ⟨rfl, rfl⟩)) ?_
        refine RegD.run 1 [(50, vb (decide (y4 < (0 : Int)))), (49, vi y4), (48, vi (ix a0 a1.toNat)), (47, .ptr 0 a1.toNat 0), (46, vi a1), (45, .own 0 0 a0.length), (44, vi (ix a0 ((Int.fdiv (IntKind.u64.wrap (v2 + v3)) (2 ^ (min 1 64))).toNat))), (43, .ptr 0 ((Int.fdiv (IntKind.u64.wrap (v2 + v3)) (2 ^ (min 1 64))).toNat) 0), (42, vi (Int.fdiv (IntKind.u64.wrap (v2 + v3)) (2 ^ (min 1 64)))), (41, .own 0 0 a0.length), (40, .fn (.func 21) [] [.ptr 1 0 0, .ptr 2 0 0, .ptr 3 0 0]), (0, .own 0 0 a0.length), (1, vi a1), (4, .fn (.func 21) [] [.ptr 1 0 0, .ptr 2 0 0, .ptr 3 0 0]), (10, vi v2), (11, vi v3), (12, vi (Int.fdiv (IntKind.u64.wrap (v2 + v3)) (2 ^ (min 1 64))))] [some (.row 1 (List.map vi a0)), some (.row 1 [vi a4]), some (.row 1 [eS 1 vi a5]), some (.row 1 [vi a6]), none, none, none, none, none, none, none, none, none, none, none] (by kernel_rfl) ?_
        refine RegD.done rfl (by kernel_rfl) (S' := ⟨[(0, .own 0 0 a0.length), (1, vi a1), (4, .fn (.func 21) [] [.ptr 1 0 0, .ptr 2 0 0, .ptr 3 0 0]), (10, vi v2), (11, vi v3), (12, vi (Int.fdiv (IntKind.u64.wrap (v2 + v3)) (2 ^ (min 1 64)))), (50, vb (decide (y4 < (0 : Int))))], [some (.row 1 (List.map vi a0)), some (.row 1 [vi a4]), some (.row 1 [eS 1 vi a5]), some (.row 1 [vi a6])]⟩) (sc [0, 1, 2, 3] (by decide) (by kernel_rfl) (obRen_row vi_frz rfl (.cons rfl (.cons rfl (.cons rfl .nil)))) rfl rfl) ?_
        refine TriE.cond (b := decide (y4 < (0 : Int))) rfl (fun c10 => ?_) (fun c10 => ?_)
        · have h := cond_t h c10
          refine TriE.regJ ?_
          refine rn 1 [(0, .own 0 0 a0.length), (1, vi a1), (4, .fn (.func 21) [] [.ptr 1 0 0, .ptr 2 0 0, .ptr 3 0 0]), (11, vi v3), (51, vi (Int.fdiv (IntKind.u64.wrap (v2 + v3)) (2 ^ (min 1 64))))] [some (.row 1 (List.map vi a0)), some (.row 1 [vi a4]), some (.row 1 [eS 1 vi a5]), some (.row 1 [vi a6])] ?_
          obtain ⟨c11, h⟩ := chk_some h
          refine jv (vi ((Int.fdiv (IntKind.u64.wrap (v2 + v3)) (2 ^ (min 1 64))) + 1)) (cy (I0 52 (.bin .add false (.t 51) (.c (.p (.int .i64 1)))))) (r_add rfl rfl c11) rfl ?_
          refine jq 1 [(0, .own 0 0 a0.length), (1, vi a1), (4, .fn (.func 21) [] [.ptr 1 0 0, .ptr 2 0 0, .ptr 3 0 0]), (11, vi v3), (10, vi ((Int.fdiv (IntKind.u64.wrap (v2 + v3)) (2 ^ (min 1 64))) + 1))] [some (.row 1 (List.map vi a0)), some (.row 1 [vi a4]), some (.row 1 [eS 1 vi a5]), some (.row 1 [vi a6])] ?_
          exact Vs.intro sy ⟨((Int.fdiv (IntKind.u64.wrap (v2 + v3)) (2 ^ (min 1 64))) + 1, v3), rfl, h⟩
        have h := cond_f h c10
        refine tr [(0, .own 0 0 a0.length), (1, vi a1), (4, .fn (.func 21) [] [.ptr 1 0 0, .ptr 2 0 0, .ptr 3 0 0]), (10, vi v2), (11, vi (Int.fdiv (IntKind.u64.wrap (v2 + v3)) (2 ^ (min 1 64))))] [some (.row 1 (List.map vi a0)), some (.row 1 [vi a4]), some (.row 1 [eS 1 vi a5]), some (.row 1 [vi a6])] ?_
        exact Vs.intro Sees.refl ⟨(v2, Int.fdiv (IntKind.u64.wrap (v2 + v3)) (2 ^ (min 1 64))), rfl, h⟩
      have h := cond_f h c3
      refine TriE.exit ?_
      exact Vs.intro sy ⟨v2, rfl, h⟩
    have h := cond_f h c2
    refine TriE.skip ?_
    refine TriE.seq ?_
    refine sj ?_
    refine rn 2 [(0, .own 0 0 a0.length), (1, vi a1), (2, vi a2), (3, vi a3), (4, .fn (.func 21) [] [.ptr 1 0 0, .ptr 2 0 0, .ptr 3 0 0]), (77, vi a3), (78, vi a2)] [some (.row 1 (List.map vi a0)), some (.row 1 [vi a4]), some (.row 1 [eS 1 vi a5]), some (.row 1 [vi a6])] ?_
    obtain ⟨c20, h⟩ := chk_some h
    refine jv (vi (a3 - a2)) (cy (I0 79 (.bin .sub false (.t 77) (.t 78)))) (r_sub rfl rfl c20) rfl ?_
    refine jq 1 [(0, .own 0 0 a0.length), (1, vi a1), (2, vi a2), (3, vi a3), (4, .fn (.func 21) [] [.ptr 1 0 0, .ptr 2 0 0, .ptr 3 0 0]), (80, vb ((a3 - a2) == (1 : Int)))] [some (.row 1 (List.map vi a0)), some (.row 1 [vi a4]), some (.row 1 [eS 1 vi a5]), some (.row 1 [vi a6])] ?_
    refine TriE.cond (b := ((a3 - a2) == (1 : Int))) rfl (fun c21 => ?_) (fun c21 => ?_)
    · have h := cond_t h c21
      refine sr [(0, .own 0 0 a0.length), (2, vi a2), (4, .fn (.func 21) [] [.ptr 1 0 0, .ptr 2 0 0, .ptr 3 0 0]), (14, vi a1)] [some (.row 1 (List.map vi a0)), some (.row 1 [vi a4]), some (.row 1 [eS 1 vi a5]), some (.row 1 [vi a6])] ?_
      refine sr [(0, .own 0 0 a0.length), (2, vi a2), (4, .fn (.func 21) [] [.ptr 1 0 0, .ptr 2 0 0, .ptr 3 0 0]), (14, vi a1), (15, vi a2)] [some (.row 1 (List.map vi a0)), some (.row 1 [vi a4]), some (.row 1 [eS 1 vi a5]), some (.row 1 [vi a6])] ?_
      refine TriE.seqK h (fun (v13 : Int) => St.mk [(0, .own 0 0 a0.length), (2, vi a2), (14, vi v13)] [some (.row 1 (List.map vi a0)), some (.row 1 [vi a4]), some (.row 1 [eS 1 vi a5]), some (.row 1 [vi a6])]) ?_ ?_
      · rintro v13 h
        refine TriE.seqK h (fun (v16 : (List Int)) => St.mk [] [some (.row 1 (List.map vi v16)), some (.row 1 [vi a4]), some (.row 1 [eS 1 vi a5]), some (.row 1 [vi a6])]) ?_ ?_
        · rintro v16 h
          refine TriE.ret ?_
          have h := Option.some.inj h
          subst h
          exact DoneS.ret (S' := ⟨[], [some (.row 1 (List.map vi v16)), some (.row 1 [vi a4]), some (.row 1 [eS 1 vi a5]), some (.row 1 [vi a6])]⟩) Sees.refl rfl rfl
        intro k4 h
        refine sr [(0, .own 0 0 a0.length), (14, vi v13), (17, vi a2)] [some (.row 1 (List.map vi a0)), some (.row 1 [vi a4]), some (.row 1 [eS 1 vi a5]), some (.row 1 [vi a6])] ?_
        refine TriE.block ?_
        refine TriE.loopN h (fun (t : Int × (List Int)) => match t with | (v14, v15) => St.mk [(0, .own 0 0 v15.length), (14, vi v13), (17, vi v14)] [some (.row 1 (List.map vi v15)), some (.row 1 [vi a4]), some (.row 1 [eS 1 vi a5]), some (.row 1 [vi a6])]) rfl ?_
        clear h
        rintro back ⟨v14, v15⟩ h
        dsimp only [slices_symMergeCmpFunc_int_L4] at h
        refine TriE.seq ?_
        refine sr [(0, .own 0 0 v15.length), (14, vi v13), (17, vi v14), (110, vb (decide (v13 < v14)))] [some (.row 1 (List.map vi v15)), some (.row 1 [vi a4]), some (.row 1 [eS 1 vi a5]), some (.row 1 [vi a6])] ?_
        refine TriE.cond (b := decide (v13 < v14)) rfl (fun c31 => ?_) (fun c31 => ?_)
        · have h := cond_t h c31
          refine TriE.skip ?_
          refine TriE.seq ?_
          refine TriE.block ?_
          refine TriE.sees (Sees.less (fr' := [(0, .own 0 0 v15.length), (14, vi v13), (17, vi v14)]) (.cons rfl (.cons rfl (.cons rfl .nil)))) ?_
          refine TriE.draw (by kernel_rfl) ?_
          refine RegD.run 4 [(116, vi v14), (115, .own 0 0 v15.length), (114, vi v14), (113, .own 0 0 v15.length), (0, .own 0 0 v15.length), (14, vi v13), (17, vi v14)] [some (.row 1 (List.map vi v15)), some (.row 1 [vi a4]), some (.row 1 [eS 1 vi a5]), some (.row 1 [vi a6]), none, none, none, none] (by kernel_rfl) ?_
          obtain ⟨c32, h⟩ := chk_some h
          refine dv (vi (v14 - 1)) (cy (I0 117 (.bin .sub false (.t 116) (.c (.p (.int .i64 1)))))) (r_sub rfl rfl c32) rfl ?_
          refine RegD.run 2 [(119, vi v14), (118, .own 0 0 v15.length), (117, vi (v14 - 1)), (116, vi v14), (115, .own 0 0 v15.length), (114, vi v14), (113, .own 0 0 v15.length), (0, .own 0 0 v15.length), (14, vi v13), (17, vi v14)] [some (.row 1 (List.map vi v15)), some (.row 1 [vi a4]), some (.row 1 [eS 1 vi a5]), some (.row 1 [vi a6]), none, none, none, none, none, none, none] (by kernel_rfl) ?_
          refine dv (vi (v14 - 1)) (cy (I0 120 (.bin .sub false (.t 119) (.c (.p (.int .i64 1)))))) (r_sub rfl rfl c32) rfl ?_
          obtain ⟨c33, h⟩ := chk_some h
          refine dv (.ptr 0 ((v14 - 1).toNat) 0) (cy (I0 121 (.iaddr 1 (.t 118) (.t 120)))) (ok_iaddr_o0 (j := (v14 - 1).toNat) rfl rfl rfl (inB_to c33) (inB_lt c33)) rfl ?_
          obtain ⟨c34, h⟩ := chk_some h
          refine dv (vi (ix v15 ((v14 - 1).toNat))) (cy (I0 122 (.load false 1 (.t 121)))) (ok_load_pm (l := v15) (e := vi) (v := vi (ix v15 ((v14 - 1).toNat))) rfl rfl c34 rfl) rfl ?_
          refine RegD.run 2 [(124, vi v14), (123, .own 0 0 v15.length), (122, vi (ix v15 ((v14 - 1).toNat))), (121, .ptr 0 ((v14 - 1).toNat) 0), (120, vi (v14 - 1)), (119, vi v14), (118, .own 0 0 v15.length), (117, vi (v14 - 1)), (116, vi v14), (115, .own 0 0 v15.length), (114, vi v14), (113, .own 0 0 v15.length), (0, .own 0 0 v15.length), (14, vi v13), (17, vi v14)] [some (.row 1 (List.map vi v15)), some (.row 1 [vi a4]), some (.row 1 [eS 1 vi a5]), some (.row 1 [vi a6]), none, none, none, none, none, none, none, none, none, none, none, none] (by kernel_rfl) ?_
          obtain ⟨c35, h⟩ := chk_some h
          refine dv (.ptr 0 v14.toNat 0) (cy (I0 125 (.iaddr 1 (.t 123) (.t 124)))) (ok_iaddr_o0 (j := v14.toNat) rfl rfl rfl (inB_to c35) (inB_lt c35)) rfl ?_
          obtain ⟨c36, h⟩ := chk_some h
          refine dv (vi (ix v15 v14.toNat)) (cy (I0 126 (.load false 1 (.t 125)))) (ok_load_pm (l := v15) (e := vi) (v := vi (ix v15 v14.toNat)) rfl rfl c36 rfl) rfl ?_
          refine dv (.ptr 0 v14.toNat 0) (cy (I0 127 (.iaddr 1 (.t 113) (.t 114)))) (ok_iaddr_o0 (j := v14.toNat) rfl rfl rfl (inB_to c35) (inB_lt c35)) rfl ?_
          refine de (.undef) [some (.row 1 (List.map vi (List.set v15 v14.toNat (ix v15 ((v14 - 1).toNat))))), some (.row 1 [vi a4]), some (.row 1 [eS 1 vi a5]), some (.row 1 [vi a6]), none, none, none, none, none, none, none, none, none, none, none, none, none, none, none, none] (cy (IN (.store 1 (.t 127) (.t 122)))) (ok_store_m (l := v15) (e := vi) (x' := (ix v15 ((v14 - 1).toNat))) (u := vi (ix v15 ((v14 - 1).toNat))) rfl rfl rfl c36 rfl rfl) rfl rfl rfl ?_
          refine dv (.ptr 0 ((v14 - 1).toNat) 0) (cy (I0 128 (.iaddr 1 (.t 115) (.t 117)))) (ok_iaddr_o0 (j := (v14 - 1).toNat) rfl rfl rfl (inB_to c33) (inB_lt c33)) rfl ?_
          obtain ⟨c37, h⟩ := chk_some h
          refine de (.undef) [some (.row 1 (List.map vi (List.set (List.set v15 v14.toNat (ix v15 ((v14 - 1).toNat))) ((v14 - 1).toNat) (ix v15 v14.toNat)))), some (.row 1 [vi a4]), some (.row 1 [eS 1 vi a5]), some (.row 1 [vi a6]), none, none, none, none, none, none, none, none, none, none, none, none, none, none, none, none, none, none] (cy (IN (.store 1 (.t 128) (.t 126)))) (ok_store_m (l := (List.set v15 v14.toNat (ix v15 ((v14 - 1).toNat)))) (e := vi) (x' := (ix v15 v14.toNat)) (u := vi (ix v15 v14.toNat)) rfl rfl rfl c37 rfl rfl) rfl rfl rfl ?_
          refine RegD.done rfl (by kernel_rfl) (S' := ⟨[(0, .own 0 0 v15.length), (14, vi v13), (17, vi v14)], [some (.row 1 (List.map vi (List.set (List.set v15 v14.toNat (ix v15 ((v14 - 1).toNat))) ((v14 - 1).toNat) (ix v15 v14.toNat)))), some (.row 1 [vi a4]), some (.row 1 [eS 1 vi a5]), some (.row 1 [vi a6])]⟩) (sc [0, 1, 2, 3] (by decide) (by kernel_rfl) (obRen_row vi_frz rfl (.cons rfl (.cons rfl (.cons rfl .nil)))) rfl rfl) ?_
          refine TriE.regJ ?_
          refine rn 1 [(0, .own 0 0 v15.length), (14, vi v13), (111, vi v14)] [some (.row 1 (List.map vi (List.set (List.set v15 v14.toNat (ix v15 ((v14 - 1).toNat))) ((v14 - 1).toNat) (ix v15 v14.toNat)))), some (.row 1 [vi a4]), some (.row 1 [eS 1 vi a5]), some (.row 1 [vi a6])] ?_
          refine jv (vi (v14 - 1)) (cy (I0 112 (.bin .sub false (.t 111) (.c (.p (.int .i64 1)))))) (r_sub rfl rfl c32) rfl ?_
          refine jq 1 [(0, .own 0 0 v15.length), (14, vi v13), (17, vi (v14 - 1))] [some (.row 1 (List.map vi (List.set (List.set v15 v14.toNat (ix v15 ((v14 - 1).toNat))) ((v14 - 1).toNat) (ix v15 v14.toNat)))), some (.row 1 [vi a4]), some (.row 1 [eS 1 vi a5]), some (.row 1 [vi a6])] ?_
          exact Vs.intro (Sees.less (.cons (by simp only [List.length_set]; rfl) (.cons rfl (.cons rfl .nil)))) ⟨(v14 - 1, (List.set (List.set v15 v14.toNat (ix v15 ((v14 - 1).toNat))) ((v14 - 1).toNat) (ix v15 v14.toNat))), rfl, h⟩
        have h := cond_f h c31
        refine TriE.exit ?_
        exact Vs.intro sy ⟨v15, rfl, h⟩
      intro k3 h
      refine TriE.block ?_
      refine TriE.loopN h (fun (t : Int × Int) => match t with | (v10, v11) => St.mk [(0, .own 0 0 a0.length), (2, vi a2), (4, .fn (.func 21) [] [.ptr 1 0 0, .ptr 2 0 0, .ptr 3 0 0]), (14, vi v10), (15, vi v11)] [some (.row 1 (List.map vi a0)), some (.row 1 [vi a4]), some (.row 1 [eS 1 vi a5]), some (.row 1 [vi a6])]) rfl ?_
      clear h
      rintro back ⟨v10, v11⟩ h
      dsimp only [slices_symMergeCmpFunc_int_L3] at h
      refine TriE.seq ?_
      refine sr [(0, .own 0 0 a0.length), (2, vi a2), (4, .fn (.func 21) [] [.ptr 1 0 0, .ptr 2 0 0, .ptr 3 0 0]), (14, vi v10), (15, vi v11), (85, vb (decide (v10 < v11)))] [some (.row 1 (List.map vi a0)), some (.row 1 [vi a4]), some (.row 1 [eS 1 vi a5]), some (.row 1 [vi a6])] ?_
      refine TriE.cond (b := decide (v10 < v11)) rfl (fun c22 => ?_) (fun c22 => ?_)
      · have h := cond_t h c22
        refine TriE.skip ?_
        refine TriE.block ?_
        refine sj ?_
        refine rn 2 [(0, .own 0 0 a0.length), (2, vi a2), (4, .fn (.func 21) [] [.ptr 1 0 0, .ptr 2 0 0, .ptr 3 0 0]), (14, vi v10), (15, vi v11), (86, vi v10), (87, vi v11)] [some (.row 1 (List.map vi a0)), some (.row 1 [vi a4]), some (.row 1 [eS 1 vi a5]), some (.row 1 [vi a6])] ?_
        obtain ⟨c23, h⟩ := chk_some h
        refine jv (vi (v10 + v11)) (cy (I0 88 (.bin .add false (.t 86) (.t 87)))) (r_add rfl rfl c23) rfl ?_
        refine rn 2 [(0, .own 0 0 a0.length), (2, vi a2), (4, .fn (.func 21) [] [.ptr 1 0 0, .ptr 2 0 0, .ptr 3 0 0]), (14, vi v10), (15, vi v11), (90, vk .u64 (Int.fdiv (IntKind.u64.wrap (v10 + v11)) (2 ^ (min 1 64))))] [some (.row 1 (List.map vi a0)), some (.row 1 [vi a4]), some (.row 1 [eS 1 vi a5]), some (.row 1 [vi a6])] ?_
        obtain ⟨c24, h⟩ := chk_some h
        refine jv (vi (Int.fdiv (IntKind.u64.wrap (v10 + v11)) (2 ^ (min 1 64)))) (cy (I0 91 (.conv .i64 (.t 90)))) (ok_conv64 rfl c24) rfl ?_
        refine jq 1 [(0, .own 0 0 a0.length), (2, vi a2), (4, .fn (.func 21) [] [.ptr 1 0 0, .ptr 2 0 0, .ptr 3 0 0]), (14, vi v10), (15, vi v11), (16, vi (Int.fdiv (IntKind.u64.wrap (v10 + v11)) (2 ^ (min 1 64))))] [some (.row 1 (List.map vi a0)), some (.row 1 [vi a4]), some (.row 1 [eS 1 vi a5]), some (.row 1 [vi a6])] ?_
        refine TriE.seq ?_
        refine TriE.sees (Sees.less (fr' := [(0, .own 0 0 a0.length), (2, vi a2), (4, .fn (.func 21) [] [.ptr 1 0 0, .ptr 2 0 0, .ptr 3 0 0]), (14, vi v10), (15, vi v11), (16, vi (Int.fdiv (IntKind.u64.wrap (v10 + v11)) (2 ^ (min 1 64))))]) (.cons rfl (.cons rfl (.cons rfl (.cons rfl (.cons rfl (.cons rfl .nil))))))) ?_
        refine TriE.draw (by kernel_rfl) ?_
        refine RegD.run 3 [(94, vi a2), (93, .own 0 0 a0.length), (92, .fn (.func 21) [] [.ptr 1 0 0, .ptr 2 0 0, .ptr 3 0 0]), (0, .own 0 0 a0.length), (2, vi a2), (4, .fn (.func 21) [] [.ptr 1 0 0, .ptr 2 0 0, .ptr 3 0 0]), (14, vi v10), (15, vi v11), (16, vi (Int.fdiv (IntKind.u64.wrap (v10 + v11)) (2 ^ (min 1 64))))] [some (.row 1 (List.map vi a0)), some (.row 1 [vi a4]), some (.row 1 [eS 1 vi a5]), some (.row 1 [vi a6]), none, none, none] (by kernel_rfl) ?_
        obtain ⟨c25, h⟩ := chk_some h
        refine dv (.ptr 0 a2.toNat 0) (cy (I0 95 (.iaddr 1 (.t 93) (.t 94)))) (ok_iaddr_o0 (j := a2.toNat) rfl rfl rfl (inB_to c25) (inB_lt c25)) rfl ?_
        obtain ⟨c26, h⟩ := chk_some h
        refine dv (vi (ix a0 a2.toNat)) (cy (I0 96 (.load false 1 (.t 95)))) (ok_load_pm (l := a0) (e := vi) (v := vi (ix a0 a2.toNat)) rfl rfl c26 rfl) rfl ?_
        refine RegD.run 2 [(98, vi (Int.fdiv (IntKind.u64.wrap (v10 + v11)) (2 ^ (min 1 64)))), (97, .own 0 0 a0.length), (96, vi (ix a0 a2.toNat)), (95, .ptr 0 a2.toNat 0), (94, vi a2), (93, .own 0 0 a0.length), (92, .fn (.func 21) [] [.ptr 1 0 0, .ptr 2 0 0, .ptr 3 0 0]), (0, .own 0 0 a0.length), (2, vi a2), (4, .fn (.func 21) [] [.ptr 1 0 0, .ptr 2 0 0, .ptr 3 0 0]), (14, vi v10), (15, vi v11), (16, vi (Int.fdiv (IntKind.u64.wrap (v10 + v11)) (2 ^ (min 1 64))))] [some (.row 1 (List.map vi a0)), some (.row 1 [vi a4]), some (.row 1 [eS 1 vi a5]), some (.row 1 [vi a6]), none, none, none, none, none, none, none] (by kernel_rfl) ?_
        obtain ⟨c27, h⟩ := chk_some h
        refine dv (.ptr 0 ((Int.fdiv (IntKind.u64.wrap (v10 + v11)) (2 ^ (min 1 64))).toNat) 0) (cy (I0 99 (.iaddr 1 (.t 97) (.t 98)))) (ok_iaddr_o0 (j := (Int.fdiv (IntKind.u64.wrap (v10 + v11)) (2 ^ (min 1 64))).toNat) rfl rfl rfl (inB_to c27) (inB_lt c27)) rfl ?_
        obtain ⟨c28, h⟩ := chk_some h
        refine dv (vi (ix a0 ((Int.fdiv (IntKind.u64.wrap (v10 + v11)) (2 ^ (min 1 64))).toNat))) (cy (I0 100 (.load false 1 (.t 99)))) (ok_load_pm (l := a0) (e := vi) (v := vi (ix a0 ((Int.fdiv (IntKind.u64.wrap (v10 + v11)) (2 ^ (min 1 64))).toNat))) rfl rfl c28 rfl) rfl ?_
        obtain ⟨y12, hy12, h⟩ := bind_some h
        refine RegD.op (OpD.dyn (y' := vi y12) (obx := [some (.row 1 [vi a4]), some (.row 1 [eS 1 vi a5]), some (.row 1 [vi a6])]) (oby := [some (.row 1 [vi a4]), some (.row 1 [eS 1 vi a5]), some (.row 1 [vi a6])]) (ob2 := [some (.row 1 (List.map vi a0)), some (.row 1 [vi a4]), some (.row 1 [eS 1 vi a5]), some (.row 1 [vi a6]), none, none, none, none, none, none, none, none, none, none]) (tch := []) 0 _ _ _ (cy (I0 101 (.dyn (.t 92) [(.t 96), (.t 100)]))) rfl (restore_Split_f2_ok n (ix a0 a2.toNat) (ix a0 ((Int.fdiv (IntKind.u64.wrap (v10 + v11)) (2 ^ (min 1 64))).toNat)) a4 a5 a6 y12 hy12) [1, 2, 3] (by kernel_rfl) (.cons rfl (.cons rfl (.cons rfl .nil))) (by kernel_rfl) (by kernel_rfl) (.cons rfl (.cons rfl (.cons rfl .nil))) (by kernel_rfl) (.cons rfl (.cons rfl (.cons rfl .nil))) (by kernel_rfl) rfl (.inr ⟨rfl, rfl⟩)) ?_
        refine RegD.run 2 [(103, vb (!(decide (y12 < (0 : Int))))), (102, vb (decide (y12 < (0 : Int)))), (101, vi y12), (100, vi (ix a0 ((Int.fdiv (IntKind.u64.wrap (v10 + v11)) (2 ^ (min 1 64))).toNat))), (99, .ptr 0 ((Int.fdiv (IntKind.u64.wrap (v10 + v11)) (2 ^ (min 1 64))).toNat) 0), (98, vi (Int.fdiv (IntKind.u64.wrap (v10 + v11)) (2 ^ (min 1 64)))), (97, .own 0 0 a0.length), (96, vi (ix a0 a2.toNat)), (95, .ptr 0 a2.toNat 0), (94, vi a2), (93, .own 0 0 a0.length), (92, .fn (.func 21) [] [.ptr 1 0 0, .ptr 2 0 0, .ptr 3 0 0]), (0, .own 0 0 a0.length), (2, vi a2), (4, .fn (.func 21) [] [.ptr 1 0 0, .ptr 2 0 0, .ptr 3 0 0]), (14, vi v10), (15, vi v11), (16, vi (Int.fdiv (IntKind.u64.wrap (v10 + v11)) (2 ^ (min 1 64))))] [some (.row 1 (List.map vi a0)), some (.row 1 [vi a4]), some (.row 1 [eS 1 vi a5]), some (.row 1 [vi a6]), none, none, none, none, none, none, none, none, none, none, none, none] (by kernel_rfl) ?_
        refine RegD.done rfl (by kernel_rfl) (S' := ⟨[(0, .own 0 0 a0.length), (2, vi a2), (4, .fn (.func 21) [] [.ptr 1 0 0, .ptr 2 0 0, .ptr 3 0 0]), (14, vi v10), (15, vi v11), (16, vi (Int.fdiv (IntKind.u64.wrap (v10 + v11)) (2 ^ (min 1 64)))), (103, vb (!(decide (y12 < (0 : Int)))))], [some (.row 1 (List.map vi a0)), some (.row 1 [vi a4]), some (.row 1 [eS 1 vi a5]), some (.row 1 [vi a6])]⟩) (sc [0, 1, 2, 3] (by decide) (by kernel_rfl) (obRen_row vi_frz rfl (.cons rfl (.cons rfl (.cons rfl .nil)))) rfl rfl) ?_
        refine TriE.cond (b := !(decide (y12 < (0 : Int)))) rfl (fun c29 => ?_) (fun c29 => ?_)
        · have h := cond_t h c29
          refine TriE.regJ ?_
          refine rn 1 [(0, .own 0 0 a0.length), (2, vi a2), (4, .fn (.func 21) [] [.ptr 1 0 0, .ptr 2 0 0, .ptr 3 0 0]), (15, vi v11), (104, vi (Int.fdiv (IntKind.u64.wrap (v10 + v11)) (2 ^ (min 1 64))))] [some (.row 1 (List.map vi a0)), some (.row 1 [vi a4]), some (.row 1 [eS 1 vi a5]), some (.row 1 [vi a6])] ?_
          obtain ⟨c30, h⟩ := chk_some h
          refine jv (vi ((Int.fdiv (IntKind.u64.wrap (v10 + v11)) (2 ^ (min 1 64))) + 1)) (cy (I0 105 (.bin .add false (.t 104) (.c (.p (.int .i64 1)))))) (r_add rfl rfl c30) rfl ?_
          refine jq 1 [(0, .own 0 0 a0.length), (2, vi a2), (4, .fn (.func 21) [] [.ptr 1 0 0, .ptr 2 0 0, .ptr 3 0 0]), (15, vi v11), (14, vi ((Int.fdiv (IntKind.u64.wrap (v10 + v11)) (2 ^ (min 1 64))) + 1))] [some (.row 1 (List.map vi a0)), some (.row 1 [vi a4]), some (.row 1 [eS 1 vi a5]), some (.row 1 [vi a6])] ?_
          exact Vs.intro sy ⟨((Int.fdiv (IntKind.u64.wrap (v10 + v11)) (2 ^ (min 1 64))) + 1, v11), rfl, h⟩
        have h := cond_f h c29
        refine tr [(0, .own 0 0 a0.length), (2, vi a2), (4, .fn (.func 21) [] [.ptr 1 0 0, .ptr 2 0 0, .ptr 3 0 0]), (14, vi v10), (15, vi (Int.fdiv (IntKind.u64.wrap (v10 + v11)) (2 ^ (min 1 64))))] [some (.row 1 (List.map vi a0)), some (.row 1 [vi a4]), some (.row 1 [eS 1 vi a5]), some (.row 1 [vi a6])] ?_
        exact Vs.intro Sees.refl ⟨(v10, Int.fdiv (IntKind.u64.wrap (v10 + v11)) (2 ^ (min 1 64))), rfl, h⟩
      have h := cond_f h c22
      refine TriE.exit ?_
      exact Vs.intro sy ⟨v10, rfl, h⟩
    have h := cond_f h c21
    refine TriE.skip ?_
    refine sj ?_
    refine rn 2 [(0, .own 0 0 a0.length), (1, vi a1), (2, vi a2), (3, vi a3), (4, .fn (.func 21) [] [.ptr 1 0 0, .ptr 2 0 0, .ptr 3 0 0]), (129, vi a1), (130, vi a3)] [some (.row 1 (List.map vi a0)), some (.row 1 [vi a4]), some (.row 1 [eS 1 vi a5]), some (.row 1 [vi a6])] ?_
    obtain ⟨c38, h⟩ := chk_some h
    refine jv (vi (a1 + a3)) (cy (I0 131 (.bin .add false (.t 129) (.t 130)))) (r_add rfl rfl c38) rfl ?_
    refine rn 2 [(0, .own 0 0 a0.length), (1, vi a1), (2, vi a2), (3, vi a3), (4, .fn (.func 21) [] [.ptr 1 0 0, .ptr 2 0 0, .ptr 3 0 0]), (133, vk .u64 (Int.fdiv (IntKind.u64.wrap (a1 + a3)) (2 ^ (min 1 64))))] [some (.row 1 (List.map vi a0)), some (.row 1 [vi a4]), some (.row 1 [eS 1 vi a5]), some (.row 1 [vi a6])] ?_
    obtain ⟨c39, h⟩ := chk_some h
    refine jv (vi (Int.fdiv (IntKind.u64.wrap (a1 + a3)) (2 ^ (min 1 64)))) (cy (I0 134 (.conv .i64 (.t 133)))) (ok_conv64 rfl c39) rfl ?_
    refine jq 1 [(0, .own 0 0 a0.length), (1, vi a1), (2, vi a2), (3, vi a3), (4, .fn (.func 21) [] [.ptr 1 0 0, .ptr 2 0 0, .ptr 3 0 0]), (18, vi (Int.fdiv (IntKind.u64.wrap (a1 + a3)) (2 ^ (min 1 64))))] [some (.row 1 (List.map vi a0)), some (.row 1 [vi a4]), some (.row 1 [eS 1 vi a5]), some (.row 1 [vi a6])] ?_
    refine sj ?_
    refine rn 2 [(0, .own 0 0 a0.length), (1, vi a1), (2, vi a2), (3, vi a3), (4, .fn (.func 21) [] [.ptr 1 0 0, .ptr 2 0 0, .ptr 3 0 0]), (18, vi (Int.fdiv (IntKind.u64.wrap (a1 + a3)) (2 ^ (min 1 64)))), (135, vi (Int.fdiv (IntKind.u64.wrap (a1 + a3)) (2 ^ (min 1 64)))), (136, vi a2)] [some (.row 1 (List.map vi a0)), some (.row 1 [vi a4]), some (.row 1 [eS 1 vi a5]), some (.row 1 [vi a6])] ?_
    obtain ⟨c40, h⟩ := chk_some h
    refine jv (vi ((Int.fdiv (IntKind.u64.wrap (a1 + a3)) (2 ^ (min 1 64))) + a2)) (cy (I0 137 (.bin .add false (.t 135) (.t 136)))) (r_add rfl rfl c40) rfl ?_
    refine jq 1 [(0, .own 0 0 a0.length), (1, vi a1), (2, vi a2), (3, vi a3), (4, .fn (.func 21) [] [.ptr 1 0 0, .ptr 2 0 0, .ptr 3 0 0]), (18, vi (Int.fdiv (IntKind.u64.wrap (a1 + a3)) (2 ^ (min 1 64)))), (19, vi ((Int.fdiv (IntKind.u64.wrap (a1 + a3)) (2 ^ (min 1 64))) + a2))] [some (.row 1 (List.map vi a0)), some (.row 1 [vi a4]), some (.row 1 [eS 1 vi a5]), some (.row 1 [vi a6])] ?_
    refine sr [(0, .own 0 0 a0.length), (1, vi a1), (2, vi a2), (3, vi a3), (4, .fn (.func 21) [] [.ptr 1 0 0, .ptr 2 0 0, .ptr 3 0 0]), (18, vi (Int.fdiv (IntKind.u64.wrap (a1 + a3)) (2 ^ (min 1 64)))), (19, vi ((Int.fdiv (IntKind.u64.wrap (a1 + a3)) (2 ^ (min 1 64))) + a2))] [some (.row 1 (List.map vi a0)), some (.row 1 [vi a4]), some (.row 1 [eS 1 vi a5]), some (.row 1 [vi a6])] ?_
    refine TriE.seqK h (fun (t : Int × Int) => match t with | (v17, v18) => St.mk [(0, .own 0 0 a0.length), (1, vi a1), (2, vi a2), (3, vi a3), (4, .fn (.func 21) [] [.ptr 1 0 0, .ptr 2 0 0, .ptr 3 0 0]), (18, vi (Int.fdiv (IntKind.u64.wrap (a1 + a3)) (2 ^ (min 1 64)))), (19, vi ((Int.fdiv (IntKind.u64.wrap (a1 + a3)) (2 ^ (min 1 64))) + a2)), (20, vi v17), (21, vi v18)] [some (.row 1 (List.map vi a0)), some (.row 1 [vi a4]), some (.row 1 [eS 1 vi a5]), some (.row 1 [vi a6])]) ?_ ?_
    · rintro ⟨v17, v18⟩ h
      refine sj ?_
      refine rn 1 [(0, .own 0 0 a0.length), (1, vi a1), (2, vi a2), (3, vi a3), (4, .fn (.func 21) [] [.ptr 1 0 0, .ptr 2 0 0, .ptr 3 0 0]), (18, vi (Int.fdiv (IntKind.u64.wrap (a1 + a3)) (2 ^ (min 1 64)))), (19, vi ((Int.fdiv (IntKind.u64.wrap (a1 + a3)) (2 ^ (min 1 64))) + a2)), (20, vi v17), (21, vi v18), (147, vi ((Int.fdiv (IntKind.u64.wrap (a1 + a3)) (2 ^ (min 1 64))) + a2))] [some (.row 1 (List.map vi a0)), some (.row 1 [vi a4]), some (.row 1 [eS 1 vi a5]), some (.row 1 [vi a6])] ?_
      obtain ⟨c43, h⟩ := chk_some h
      refine jv (vi (((Int.fdiv (IntKind.u64.wrap (a1 + a3)) (2 ^ (min 1 64))) + a2) - 1)) (cy (I0 148 (.bin .sub false (.t 147) (.c (.p (.int .i64 1)))))) (r_sub rfl rfl c43) rfl ?_
      refine jq 1 [(0, .own 0 0 a0.length), (1, vi a1), (2, vi a2), (3, vi a3), (4, .fn (.func 21) [] [.ptr 1 0 0, .ptr 2 0 0, .ptr 3 0 0]), (18, vi (Int.fdiv (IntKind.u64.wrap (a1 + a3)) (2 ^ (min 1 64)))), (19, vi ((Int.fdiv (IntKind.u64.wrap (a1 + a3)) (2 ^ (min 1 64))) + a2)), (20, vi v17), (21, vi v18), (22, vi (((Int.fdiv (IntKind.u64.wrap (a1 + a3)) (2 ^ (min 1 64))) + a2) - 1))] [some (.row 1 (List.map vi a0)), some (.row 1 [vi a4]), some (.row 1 [eS 1 vi a5]), some (.row 1 [vi a6])] ?_
      refine TriE.seqK h (fun (v23 : Int) => St.mk [(0, .own 0 0 a0.length), (1, vi a1), (2, vi a2), (3, vi a3), (4, .fn (.func 21) [] [.ptr 1 0 0, .ptr 2 0 0, .ptr 3 0 0]), (18, vi (Int.fdiv (IntKind.u64.wrap (a1 + a3)) (2 ^ (min 1 64)))), (19, vi ((Int.fdiv (IntKind.u64.wrap (a1 + a3)) (2 ^ (min 1 64))) + a2)), (20, vi v23)] [some (.row 1 (List.map vi a0)), some (.row 1 [vi a4]), some (.row 1 [eS 1 vi a5]), some (.row 1 [vi a6])]) ?_ ?_
      · rintro v23 h
        refine sj ?_
        refine rn 2 [(0, .own 0 0 a0.length), (1, vi a1), (2, vi a2), (3, vi a3), (4, .fn (.func 21) [] [.ptr 1 0 0, .ptr 2 0 0, .ptr 3 0 0]), (18, vi (Int.fdiv (IntKind.u64.wrap (a1 + a3)) (2 ^ (min 1 64)))), (20, vi v23), (175, vi ((Int.fdiv (IntKind.u64.wrap (a1 + a3)) (2 ^ (min 1 64))) + a2)), (176, vi v23)] [some (.row 1 (List.map vi a0)), some (.row 1 [vi a4]), some (.row 1 [eS 1 vi a5]), some (.row 1 [vi a6])] ?_
        obtain ⟨c54, h⟩ := chk_some h
        refine jv (vi (((Int.fdiv (IntKind.u64.wrap (a1 + a3)) (2 ^ (min 1 64))) + a2) - v23)) (cy (I0 177 (.bin .sub false (.t 175) (.t 176)))) (r_sub rfl rfl c54) rfl ?_
        refine jq 1 [(0, .own 0 0 a0.length), (1, vi a1), (2, vi a2), (3, vi a3), (4, .fn (.func 21) [] [.ptr 1 0 0, .ptr 2 0 0, .ptr 3 0 0]), (18, vi (Int.fdiv (IntKind.u64.wrap (a1 + a3)) (2 ^ (min 1 64)))), (20, vi v23), (24, vi (((Int.fdiv (IntKind.u64.wrap (a1 + a3)) (2 ^ (min 1 64))) + a2) - v23))] [some (.row 1 (List.map vi a0)), some (.row 1 [vi a4]), some (.row 1 [eS 1 vi a5]), some (.row 1 [vi a6])] ?_
        refine TriE.seqK h (fun (v25 : (List Int)) => St.mk [(0, .own 0 0 v25.length), (1, vi a1), (3, vi a3), (4, .fn (.func 21) [] [.ptr 1 0 0, .ptr 2 0 0, .ptr 3 0 0]), (18, vi (Int.fdiv (IntKind.u64.wrap (a1 + a3)) (2 ^ (min 1 64)))), (20, vi v23), (24, vi (((Int.fdiv (IntKind.u64.wrap (a1 + a3)) (2 ^ (min 1 64))) + a2) - v23))] [some (.row 1 (List.map vi v25)), some (.row 1 [vi a4]), some (.row 1 [eS 1 vi a5]), some (.row 1 [vi a6])]) ?_ ?_
        · rintro v25 h
          refine TriE.seqK h (fun (v27 : (List Int)) => St.mk [(0, .own 0 0 v27.length), (3, vi a3), (4, .fn (.func 21) [] [.ptr 1 0 0, .ptr 2 0 0, .ptr 3 0 0]), (18, vi (Int.fdiv (IntKind.u64.wrap (a1 + a3)) (2 ^ (min 1 64)))), (24, vi (((Int.fdiv (IntKind.u64.wrap (a1 + a3)) (2 ^ (min 1 64))) + a2) - v23))] [some (.row 1 (List.map vi v27)), some (.row 1 [vi a4]), some (.row 1 [eS 1 vi a5]), some (.row 1 [vi a6])]) ?_ ?_
          · rintro v27 h
            refine sj ?_
            refine rn 4 [(0, .own 0 0 v27.length), (3, vi a3), (4, .fn (.func 21) [] [.ptr 1 0 0, .ptr 2 0 0, .ptr 3 0 0]), (18, vi (Int.fdiv (IntKind.u64.wrap (a1 + a3)) (2 ^ (min 1 64)))), (24, vi (((Int.fdiv (IntKind.u64.wrap (a1 + a3)) (2 ^ (min 1 64))) + a2) - v23)), (209, vb (decide ((Int.fdiv (IntKind.u64.wrap (a1 + a3)) (2 ^ (min 1 64))) < (((Int.fdiv (IntKind.u64.wrap (a1 + a3)) (2 ^ (min 1 64))) + a2) - v23))))] [some (.row 1 (List.map vi v27)), some (.row 1 [vi a4]), some (.row 1 [eS 1 vi a5]), some (.row 1 [vi a6])] ?_
            refine RegJ.op (Op1.valk (v := vi (((Int.fdiv (IntKind.u64.wrap (a1 + a3)) (2 ^ (min 1 64))) + a2) - v23)) _ _ (cy (IG 210 (.mov (.t 24)) 209 true)) rfl (by kernel_rfl) (fun hg => (.cons rfl .nil))) ?_
            refine RegJ.op (Op1.valk (v := vi a3) _ _ (cy (IG 211 (.mov (.t 3)) 209 true)) rfl (by kernel_rfl) (fun hg => (.cons rfl .nil))) ?_
            refine RegJ.op (Op1.valk (v := vb (decide ((((Int.fdiv (IntKind.u64.wrap (a1 + a3)) (2 ^ (min 1 64))) + a2) - v23) < a3))) _ _ (cy (IG 212 (.bin .lss false (.t 210) (.t 211)) 209 true)) rfl (by kernel_rfl) (fun hg => (.cons hg (.cons hg .nil)))) ?_
            refine RegJ.op (Op1.and (cy (I0 213 (.pick (.t 209) (.t 212) (.c (.p (.bool false)))))) rfl rfl (by first | exact hokA1 | exact hokA0 | simp)) ?_
            refine jp [(0, .own 0 0 v27.length), (3, vi a3), (4, .fn (.func 21) [] [.ptr 1 0 0, .ptr 2 0 0, .ptr 3 0 0]), (18, vi (Int.fdiv (IntKind.u64.wrap (a1 + a3)) (2 ^ (min 1 64)))), (24, vi (((Int.fdiv (IntKind.u64.wrap (a1 + a3)) (2 ^ (min 1 64))) + a2) - v23)), (213, vb ((decide ((Int.fdiv (IntKind.u64.wrap (a1 + a3)) (2 ^ (min 1 64))) < (((Int.fdiv (IntKind.u64.wrap (a1 + a3)) (2 ^ (min 1 64))) + a2) - v23))) && (decide ((((Int.fdiv (IntKind.u64.wrap (a1 + a3)) (2 ^ (min 1 64))) + a2) - v23) < a3))))] ?_
            refine TriE.cond (b := (decide ((Int.fdiv (IntKind.u64.wrap (a1 + a3)) (2 ^ (min 1 64))) < (((Int.fdiv (IntKind.u64.wrap (a1 + a3)) (2 ^ (min 1 64))) + a2) - v23))) && (decide ((((Int.fdiv (IntKind.u64.wrap (a1 + a3)) (2 ^ (min 1 64))) + a2) - v23) < a3))) rfl (fun c59 => ?_) (fun c59 => ?_)
            · have h := cond_t h c59
              refine TriE.regJ ?_
              refine rn 5 [(214, .own 0 0 v27.length), (215, vi (Int.fdiv (IntKind.u64.wrap (a1 + a3)) (2 ^ (min 1 64)))), (216, vi (((Int.fdiv (IntKind.u64.wrap (a1 + a3)) (2 ^ (min 1 64))) + a2) - v23)), (217, vi a3), (218, .fn (.func 21) [] [.ptr 1 0 0, .ptr 2 0 0, .ptr 3 0 0])] [some (.row 1 (List.map vi v27)), some (.row 1 [vi a4]), some (.row 1 [eS 1 vi a5]), some (.row 1 [vi a6])] ?_
              obtain ⟨y28, hy28, h⟩ := bind_some h
              refine RegJ.op (Op1.call (y' := .tup []) (obx := [some (.row 1 (List.map vi v27)), some (.row 1 [vi a4]), some (.row 1 [eS 1 vi a5]), some (.row 1 [vi a6])]) (oby := [some (.row 1 (List.map vi y28)), some (.row 1 [vi a4]), some (.row 1 [eS 1 vi a5]), some (.row 1 [vi a6])]) (ob2 := [some (.row 1 (List.map vi y28)), some (.row 1 [vi a4]), some (.row 1 [eS 1 vi a5]), some (.row 1 [vi a6])]) _ _ (cy (I0 219 (.call 54 [(.t 214), (.t 215), (.t 216), (.t 217), (.t 218)]))) rfl (ih v27 (Int.fdiv (IntKind.u64.wrap (a1 + a3)) (2 ^ (min 1 64))) (((Int.fdiv (IntKind.u64.wrap (a1 + a3)) (2 ^ (min 1 64))) + a2) - v23) a3 a4 a5 a6 y28 hy28) [0, 1, 2, 3] (by kernel_rfl) (.cons rfl (.cons rfl (.cons rfl (.cons rfl (.cons rfl (.cons rfl .nil)))))) (by kernel_rfl) (by kernel_rfl) (.same (row_ren vi_frz _ _ _) (.cons rfl (.cons rfl (.cons rfl .nil)))) (by kernel_rfl) (.same (row_ren vi_frz _ _ _) (.cons rfl (.cons rfl (.cons rfl .nil)))) (by kernel_rfl)) ?_
              obtain ⟨c60, h⟩ := chk_some h
              refine RegJ.sees (S' := ⟨[(214, .own 0 0 y28.length), (215, vi (Int.fdiv (IntKind.u64.wrap (a1 + a3)) (2 ^ (min 1 64)))), (216, vi (((Int.fdiv (IntKind.u64.wrap (a1 + a3)) (2 ^ (min 1 64))) + a2) - v23)), (217, vi a3), (218, .fn (.func 21) [] [.ptr 1 0 0, .ptr 2 0 0, .ptr 3 0 0]), (219, .tup [])], [some (.row 1 (List.map vi y28)), some (.row 1 [vi a4]), some (.row 1 [eS 1 vi a5]), some (.row 1 [vi a6])]⟩) (Sees.cov (Cov.mk2 (rs := [0, 1, 2, 3]) (by decide) rfl rfl (.cons (.inl (by rw [show v27.length = y28.length from of_decide_eq_true c60]; rfl)) (.cons (.inl rfl) (.cons (.inl rfl) (.cons (.inl rfl) (.cons (.inl rfl) (.cons (.inl rfl) .nil)))))) (obRen_row vi_frz rfl (.cons rfl (.cons rfl (.cons rfl .nil)))))) ?_
              refine jp [] ?_
              have h := Option.some.inj h
              subst h
              exact DoneS.normal (S' := ⟨[], [some (.row 1 (List.map vi y28)), some (.row 1 [vi a4]), some (.row 1 [eS 1 vi a5]), some (.row 1 [vi a6])]⟩) Sees.refl rfl rfl
            have h := cond_f h c59
            refine TriE.skip ?_
            have h := Option.some.inj h
            subst h
            exact DoneS.normal (S' := ⟨[], [some (.row 1 (List.map vi v27)), some (.row 1 [vi a4]), some (.row 1 [eS 1 vi a5]), some (.row 1 [vi a6])]⟩) sy rfl rfl
          intro k8 h
          refine sj ?_
          refine rn 4 [(0, .own 0 0 v25.length), (1, vi a1), (3, vi a3), (4, .fn (.func 21) [] [.ptr 1 0 0, .ptr 2 0 0, .ptr 3 0 0]), (18, vi (Int.fdiv (IntKind.u64.wrap (a1 + a3)) (2 ^ (min 1 64)))), (20, vi v23), (24, vi (((Int.fdiv (IntKind.u64.wrap (a1 + a3)) (2 ^ (min 1 64))) + a2) - v23)), (195, vb (decide (a1 < v23)))] [some (.row 1 (List.map vi v25)), some (.row 1 [vi a4]), some (.row 1 [eS 1 vi a5]), some (.row 1 [vi a6])] ?_
          refine RegJ.op (Op1.valk (v := vi v23) _ _ (cy (IG 196 (.mov (.t 20)) 195 true)) rfl (by kernel_rfl) (fun hg => (.cons rfl .nil))) ?_
          refine RegJ.op (Op1.valk (v := vi (Int.fdiv (IntKind.u64.wrap (a1 + a3)) (2 ^ (min 1 64)))) _ _ (cy (IG 197 (.mov (.t 18)) 195 true)) rfl (by kernel_rfl) (fun hg => (.cons rfl .nil))) ?_
          refine RegJ.op (Op1.valk (v := vb (decide (v23 < (Int.fdiv (IntKind.u64.wrap (a1 + a3)) (2 ^ (min 1 64)))))) _ _ (cy (IG 198 (.bin .lss false (.t 196) (.t 197)) 195 true)) rfl (by kernel_rfl) (fun hg => (.cons hg (.cons hg .nil)))) ?_
          refine RegJ.op (Op1.and (cy (I0 199 (.pick (.t 195) (.t 198) (.c (.p (.bool false)))))) rfl rfl (by first | exact hokA1 | exact hokA0 | simp)) ?_
          refine jp [(0, .own 0 0 v25.length), (1, vi a1), (3, vi a3), (4, .fn (.func 21) [] [.ptr 1 0 0, .ptr 2 0 0, .ptr 3 0 0]), (18, vi (Int.fdiv (IntKind.u64.wrap (a1 + a3)) (2 ^ (min 1 64)))), (20, vi v23), (24, vi (((Int.fdiv (IntKind.u64.wrap (a1 + a3)) (2 ^ (min 1 64))) + a2) - v23)), (199, vb ((decide (a1 < v23)) && (decide (v23 < (Int.fdiv (IntKind.u64.wrap (a1 + a3)) (2 ^ (min 1 64)))))))] ?_
          refine TriE.cond (b := (decide (a1 < v23)) && (decide (v23 < (Int.fdiv (IntKind.u64.wrap (a1 + a3)) (2 ^ (min 1 64)))))) rfl (fun c57 => ?_) (fun c57 => ?_)
          · have h := cond_t h c57
            refine TriE.regJ ?_
            refine rn 5 [(0, .own 0 0 v25.length), (3, vi a3), (4, .fn (.func 21) [] [.ptr 1 0 0, .ptr 2 0 0, .ptr 3 0 0]), (18, vi (Int.fdiv (IntKind.u64.wrap (a1 + a3)) (2 ^ (min 1 64)))), (24, vi (((Int.fdiv (IntKind.u64.wrap (a1 + a3)) (2 ^ (min 1 64))) + a2) - v23)), (200, .own 0 0 v25.length), (201, vi a1), (202, vi v23), (203, vi (Int.fdiv (IntKind.u64.wrap (a1 + a3)) (2 ^ (min 1 64)))), (204, .fn (.func 21) [] [.ptr 1 0 0, .ptr 2 0 0, .ptr 3 0 0])] [some (.row 1 (List.map vi v25)), some (.row 1 [vi a4]), some (.row 1 [eS 1 vi a5]), some (.row 1 [vi a6])] ?_
            obtain ⟨y26, hy26, h⟩ := bind_some h
            refine RegJ.op (Op1.call (y' := .tup []) (obx := [some (.row 1 (List.map vi v25)), some (.row 1 [vi a4]), some (.row 1 [eS 1 vi a5]), some (.row 1 [vi a6])]) (oby := [some (.row 1 (List.map vi y26)), some (.row 1 [vi a4]), some (.row 1 [eS 1 vi a5]), some (.row 1 [vi a6])]) (ob2 := [some (.row 1 (List.map vi y26)), some (.row 1 [vi a4]), some (.row 1 [eS 1 vi a5]), some (.row 1 [vi a6])]) _ _ (cy (I0 205 (.call 54 [(.t 200), (.t 201), (.t 202), (.t 203), (.t 204)]))) rfl (ih v25 a1 v23 (Int.fdiv (IntKind.u64.wrap (a1 + a3)) (2 ^ (min 1 64))) a4 a5 a6 y26 hy26) [0, 1, 2, 3] (by kernel_rfl) (.cons rfl (.cons rfl (.cons rfl (.cons rfl (.cons rfl (.cons rfl .nil)))))) (by kernel_rfl) (by kernel_rfl) (.same (row_ren vi_frz _ _ _) (.cons rfl (.cons rfl (.cons rfl .nil)))) (by kernel_rfl) (.same (row_ren vi_frz _ _ _) (.cons rfl (.cons rfl (.cons rfl .nil)))) (by kernel_rfl)) ?_
            obtain ⟨c58, h⟩ := chk_some h
            refine RegJ.sees (S' := ⟨[(0, .own 0 0 y26.length), (3, vi a3), (4, .fn (.func 21) [] [.ptr 1 0 0, .ptr 2 0 0, .ptr 3 0 0]), (18, vi (Int.fdiv (IntKind.u64.wrap (a1 + a3)) (2 ^ (min 1 64)))), (24, vi (((Int.fdiv (IntKind.u64.wrap (a1 + a3)) (2 ^ (min 1 64))) + a2) - v23)), (200, .own 0 0 y26.length), (201, vi a1), (202, vi v23), (203, vi (Int.fdiv (IntKind.u64.wrap (a1 + a3)) (2 ^ (min 1 64)))), (204, .fn (.func 21) [] [.ptr 1 0 0, .ptr 2 0 0, .ptr 3 0 0]), (205, .tup [])], [some (.row 1 (List.map vi y26)), some (.row 1 [vi a4]), some (.row 1 [eS 1 vi a5]), some (.row 1 [vi a6])]⟩) (Sees.cov (Cov.mk2 (rs := [0, 1, 2, 3]) (by decide) rfl rfl (.cons (.inl (by rw [show v25.length = y26.length from of_decide_eq_true c58]; rfl)) (.cons (.inl rfl) (.cons (.inl rfl) (.cons (.inl rfl) (.cons (.inl rfl) (.cons (.inl (by rw [show v25.length = y26.length from of_decide_eq_true c58]; rfl)) (.cons (.inl rfl) (.cons (.inl rfl) (.cons (.inl rfl) (.cons (.inl rfl) (.cons (.inl rfl) .nil))))))))))) (obRen_row vi_frz rfl (.cons rfl (.cons rfl (.cons rfl .nil)))))) ?_
            refine jp [(0, .own 0 0 y26.length), (3, vi a3), (4, .fn (.func 21) [] [.ptr 1 0 0, .ptr 2 0 0, .ptr 3 0 0]), (18, vi (Int.fdiv (IntKind.u64.wrap (a1 + a3)) (2 ^ (min 1 64)))), (24, vi (((Int.fdiv (IntKind.u64.wrap (a1 + a3)) (2 ^ (min 1 64))) + a2) - v23))] ?_
            exact Vs.intro Sees.refl ⟨y26, rfl, h⟩
          have h := cond_f h c57
          refine TriE.skip ?_
          exact Vs.intro sy ⟨v25, rfl, h⟩
        intro k7 h
        refine sj ?_
        refine rn 4 [(0, .own 0 0 a0.length), (1, vi a1), (2, vi a2), (3, vi a3), (4, .fn (.func 21) [] [.ptr 1 0 0, .ptr 2 0 0, .ptr 3 0 0]), (18, vi (Int.fdiv (IntKind.u64.wrap (a1 + a3)) (2 ^ (min 1 64)))), (20, vi v23), (24, vi (((Int.fdiv (IntKind.u64.wrap (a1 + a3)) (2 ^ (min 1 64))) + a2) - v23)), (181, vb (decide (v23 < a2)))] [some (.row 1 (List.map vi a0)), some (.row 1 [vi a4]), some (.row 1 [eS 1 vi a5]), some (.row 1 [vi a6])] ?_
        refine RegJ.op (Op1.valk (v := vi a2) _ _ (cy (IG 182 (.mov (.t 2)) 181 true)) rfl (by kernel_rfl) (fun hg => (.cons rfl .nil))) ?_
        refine RegJ.op (Op1.valk (v := vi (((Int.fdiv (IntKind.u64.wrap (a1 + a3)) (2 ^ (min 1 64))) + a2) - v23)) _ _ (cy (IG 183 (.mov (.t 24)) 181 true)) rfl (by kernel_rfl) (fun hg => (.cons rfl .nil))) ?_
        refine RegJ.op (Op1.valk (v := vb (decide (a2 < (((Int.fdiv (IntKind.u64.wrap (a1 + a3)) (2 ^ (min 1 64))) + a2) - v23)))) _ _ (cy (IG 184 (.bin .lss false (.t 182) (.t 183)) 181 true)) rfl (by kernel_rfl) (fun hg => (.cons hg (.cons hg .nil)))) ?_
        refine RegJ.op (Op1.and (cy (I0 185 (.pick (.t 181) (.t 184) (.c (.p (.bool false)))))) rfl rfl (by first | exact hokA1 | exact hokA0 | simp)) ?_
        refine jp [(0, .own 0 0 a0.length), (1, vi a1), (2, vi a2), (3, vi a3), (4, .fn (.func 21) [] [.ptr 1 0 0, .ptr 2 0 0, .ptr 3 0 0]), (18, vi (Int.fdiv (IntKind.u64.wrap (a1 + a3)) (2 ^ (min 1 64)))), (20, vi v23), (24, vi (((Int.fdiv (IntKind.u64.wrap (a1 + a3)) (2 ^ (min 1 64))) + a2) - v23)), (185, vb ((decide (v23 < a2)) && (decide (a2 < (((Int.fdiv (IntKind.u64.wrap (a1 + a3)) (2 ^ (min 1 64))) + a2) - v23)))))] ?_
        refine TriE.cond (b := (decide (v23 < a2)) && (decide (a2 < (((Int.fdiv (IntKind.u64.wrap (a1 + a3)) (2 ^ (min 1 64))) + a2) - v23)))) rfl (fun c55 => ?_) (fun c55 => ?_)
        · have h := cond_t h c55
          refine TriE.regJ ?_
          refine rn 5 [(0, .own 0 0 a0.length), (1, vi a1), (3, vi a3), (4, .fn (.func 21) [] [.ptr 1 0 0, .ptr 2 0 0, .ptr 3 0 0]), (18, vi (Int.fdiv (IntKind.u64.wrap (a1 + a3)) (2 ^ (min 1 64)))), (20, vi v23), (24, vi (((Int.fdiv (IntKind.u64.wrap (a1 + a3)) (2 ^ (min 1 64))) + a2) - v23)), (186, .own 0 0 a0.length), (187, vi v23), (188, vi a2), (189, vi (((Int.fdiv (IntKind.u64.wrap (a1 + a3)) (2 ^ (min 1 64))) + a2) - v23)), (190, .fn (.func 21) [] [.ptr 1 0 0, .ptr 2 0 0, .ptr 3 0 0])] [some (.row 1 (List.map vi a0)), some (.row 1 [vi a4]), some (.row 1 [eS 1 vi a5]), some (.row 1 [vi a6])] ?_
          obtain ⟨y24, hy24, h⟩ := bind_some h
          refine RegJ.op (Op1.call (y' := .tup []) (obx := [some (.row 1 (List.map vi a0)), some (.row 1 [vi a4]), some (.row 1 [eS 1 vi a5]), some (.row 1 [vi a6])]) (oby := [some (.row 1 (List.map vi y24)), some (.row 1 [vi a4]), some (.row 1 [eS 1 vi a5]), some (.row 1 [vi a6])]) (ob2 := [some (.row 1 (List.map vi y24)), some (.row 1 [vi a4]), some (.row 1 [eS 1 vi a5]), some (.row 1 [vi a6])]) _ _ (cy (I0 191 (.call 72 [(.t 186), (.t 187), (.t 188), (.t 189), (.t 190)]))) rfl (slices_rotateCmpFunc_int_ok n a0 v23 a2 (((Int.fdiv (IntKind.u64.wrap (a1 + a3)) (2 ^ (min 1 64))) + a2) - v23) a4 a5 a6 y24 hy24) [0, 1, 2, 3] (by kernel_rfl) (.cons rfl (.cons rfl (.cons rfl (.cons rfl (.cons rfl (.cons rfl .nil)))))) (by kernel_rfl) (by kernel_rfl) (.same (row_ren vi_frz _ _ _) (.cons rfl (.cons rfl (.cons rfl .nil)))) (by kernel_rfl) (.same (row_ren vi_frz _ _ _) (.cons rfl (.cons rfl (.cons rfl .nil)))) (by kernel_rfl)) ?_
          obtain ⟨c56, h⟩ := chk_some h
          refine RegJ.sees (S' := ⟨[(0, .own 0 0 y24.length), (1, vi a1), (3, vi a3), (4, .fn (.func 21) [] [.ptr 1 0 0, .ptr 2 0 0, .ptr 3 0 0]), (18, vi (Int.fdiv (IntKind.u64.wrap (a1 + a3)) (2 ^ (min 1 64)))), (20, vi v23), (24, vi (((Int.fdiv (IntKind.u64.wrap (a1 + a3)) (2 ^ (min 1 64))) + a2) - v23)), (186, .own 0 0 y24.length), (187, vi v23), (188, vi a2), (189, vi (((Int.fdiv (IntKind.u64.wrap (a1 + a3)) (2 ^ (min 1 64))) + a2) - v23)), (190, .fn (.func 21) [] [.ptr 1 0 0, .ptr 2 0 0, .ptr 3 0 0]), (191, .tup [])], [some (.row 1 (List.map vi y24)), some (.row 1 [vi a4]), some (.row 1 [eS 1 vi a5]), some (.row 1 [vi a6])]⟩) (Sees.cov (Cov.mk2 (rs := [0, 1, 2, 3]) (by decide) rfl rfl (.cons (.inl (by rw [show a0.length = y24.length from of_decide_eq_true c56]; rfl)) (.cons (.inl rfl) (.cons (.inl rfl) (.cons (.inl rfl) (.cons (.inl rfl) (.cons (.inl rfl) (.cons (.inl rfl) (.cons (.inl (by rw [show a0.length = y24.length from of_decide_eq_true c56]; rfl)) (.cons (.inl rfl) (.cons (.inl rfl) (.cons (.inl rfl) (.cons (.inl rfl) (.cons (.inl rfl) .nil))))))))))))) (obRen_row vi_frz rfl (.cons rfl (.cons rfl (.cons rfl .nil)))))) ?_
          refine jp [(0, .own 0 0 y24.length), (1, vi a1), (3, vi a3), (4, .fn (.func 21) [] [.ptr 1 0 0, .ptr 2 0 0, .ptr 3 0 0]), (18, vi (Int.fdiv (IntKind.u64.wrap (a1 + a3)) (2 ^ (min 1 64)))), (20, vi v23), (24, vi (((Int.fdiv (IntKind.u64.wrap (a1 + a3)) (2 ^ (min 1 64))) + a2) - v23))] ?_
          exact Vs.intro Sees.refl ⟨y24, rfl, h⟩
        have h := cond_f h c55
        refine TriE.skip ?_
        exact Vs.intro sy ⟨a0, rfl, h⟩
      intro k6 h
      refine TriE.block ?_
      refine TriE.loopN h (fun (t : Int × Int) => match t with | (v20, v21) => St.mk [(0, .own 0 0 a0.length), (1, vi a1), (2, vi a2), (3, vi a3), (4, .fn (.func 21) [] [.ptr 1 0 0, .ptr 2 0 0, .ptr 3 0 0]), (18, vi (Int.fdiv (IntKind.u64.wrap (a1 + a3)) (2 ^ (min 1 64)))), (19, vi ((Int.fdiv (IntKind.u64.wrap (a1 + a3)) (2 ^ (min 1 64))) + a2)), (20, vi v20), (21, vi v21), (22, vi (((Int.fdiv (IntKind.u64.wrap (a1 + a3)) (2 ^ (min 1 64))) + a2) - 1))] [some (.row 1 (List.map vi a0)), some (.row 1 [vi a4]), some (.row 1 [eS 1 vi a5]), some (.row 1 [vi a6])]) rfl ?_
      clear h
      rintro back ⟨v20, v21⟩ h
      dsimp only [slices_symMergeCmpFunc_int_L5] at h
      refine TriE.seq ?_
      refine sr [(0, .own 0 0 a0.length), (1, vi a1), (2, vi a2), (3, vi a3), (4, .fn (.func 21) [] [.ptr 1 0 0, .ptr 2 0 0, .ptr 3 0 0]), (18, vi (Int.fdiv (IntKind.u64.wrap (a1 + a3)) (2 ^ (min 1 64)))), (19, vi ((Int.fdiv (IntKind.u64.wrap (a1 + a3)) (2 ^ (min 1 64))) + a2)), (20, vi v20), (21, vi v21), (22, vi (((Int.fdiv (IntKind.u64.wrap (a1 + a3)) (2 ^ (min 1 64))) + a2) - 1)), (151, vb (decide (v20 < v21)))] [some (.row 1 (List.map vi a0)), some (.row 1 [vi a4]), some (.row 1 [eS 1 vi a5]), some (.row 1 [vi a6])] ?_
      refine TriE.cond (b := decide (v20 < v21)) rfl (fun c44 => ?_) (fun c44 => ?_)
      · have h := cond_t h c44
        refine TriE.skip ?_
        refine TriE.block ?_
        refine sj ?_
        refine rn 2 [(0, .own 0 0 a0.length), (1, vi a1), (2, vi a2), (3, vi a3), (4, .fn (.func 21) [] [.ptr 1 0 0, .ptr 2 0 0, .ptr 3 0 0]), (18, vi (Int.fdiv (IntKind.u64.wrap (a1 + a3)) (2 ^ (min 1 64)))), (19, vi ((Int.fdiv (IntKind.u64.wrap (a1 + a3)) (2 ^ (min 1 64))) + a2)), (20, vi v20), (21, vi v21), (22, vi (((Int.fdiv (IntKind.u64.wrap (a1 + a3)) (2 ^ (min 1 64))) + a2) - 1)), (152, vi v20), (153, vi v21)] [some (.row 1 (List.map vi a0)), some (.row 1 [vi a4]), some (.row 1 [eS 1 vi a5]), some (.row 1 [vi a6])] ?_
        obtain ⟨c45, h⟩ := chk_some h
        refine jv (vi (v20 + v21)) (cy (I0 154 (.bin .add false (.t 152) (.t 153)))) (r_add rfl rfl c45) rfl ?_
        refine rn 2 [(0, .own 0 0 a0.length), (1, vi a1), (2, vi a2), (3, vi a3), (4, .fn (.func 21) [] [.ptr 1 0 0, .ptr 2 0 0, .ptr 3 0 0]), (18, vi (Int.fdiv (IntKind.u64.wrap (a1 + a3)) (2 ^ (min 1 64)))), (19, vi ((Int.fdiv (IntKind.u64.wrap (a1 + a3)) (2 ^ (min 1 64))) + a2)), (20, vi v20), (21, vi v21), (22, vi (((Int.fdiv (IntKind.u64.wrap (a1 + a3)) (2 ^ (min 1 64))) + a2) - 1)), (156, vk .u64 (Int.fdiv (IntKind.u64.wrap (v20 + v21)) (2 ^ (min 1 64))))] [some (.row 1 (List.map vi a0)), some (.row 1 [vi a4]), some (.row 1 [eS 1 vi a5]), some (.row 1 [vi a6])] ?_
        obtain ⟨c46, h⟩ := chk_some h
        refine jv (vi (Int.fdiv (IntKind.u64.wrap (v20 + v21)) (2 ^ (min 1 64)))) (cy (I0 157 (.conv .i64 (.t 156)))) (ok_conv64 rfl c46) rfl ?_
        refine jq 1 [(0, .own 0 0 a0.length), (1, vi a1), (2, vi a2), (3, vi a3), (4, .fn (.func 21) [] [.ptr 1 0 0, .ptr 2 0 0, .ptr 3 0 0]), (18, vi (Int.fdiv (IntKind.u64.wrap (a1 + a3)) (2 ^ (min 1 64)))), (19, vi ((Int.fdiv (IntKind.u64.wrap (a1 + a3)) (2 ^ (min 1 64))) + a2)), (20, vi v20), (21, vi v21), (22, vi (((Int.fdiv (IntKind.u64.wrap (a1 + a3)) (2 ^ (min 1 64))) + a2) - 1)), (23, vi (Int.fdiv (IntKind.u64.wrap (v20 + v21)) (2 ^ (min 1 64))))] [some (.row 1 (List.map vi a0)), some (.row 1 [vi a4]), some (.row 1 [eS 1 vi a5]), some (.row 1 [vi a6])] ?_
        refine TriE.seq ?_
        refine TriE.sees (Sees.less (fr' := [(0, .own 0 0 a0.length), (1, vi a1), (2, vi a2), (3, vi a3), (4, .fn (.func 21) [] [.ptr 1 0 0, .ptr 2 0 0, .ptr 3 0 0]), (18, vi (Int.fdiv (IntKind.u64.wrap (a1 + a3)) (2 ^ (min 1 64)))), (19, vi ((Int.fdiv (IntKind.u64.wrap (a1 + a3)) (2 ^ (min 1 64))) + a2)), (20, vi v20), (21, vi v21), (22, vi (((Int.fdiv (IntKind.u64.wrap (a1 + a3)) (2 ^ (min 1 64))) + a2) - 1)), (23, vi (Int.fdiv (IntKind.u64.wrap (v20 + v21)) (2 ^ (min 1 64))))]) (.cons rfl (.cons rfl (.cons rfl (.cons rfl (.cons rfl (.cons rfl (.cons rfl (.cons rfl (.cons rfl (.cons rfl (.cons rfl .nil)))))))))))) ?_
        refine TriE.draw (by kernel_rfl) ?_
        refine RegD.run 4 [(161, vi (Int.fdiv (IntKind.u64.wrap (v20 + v21)) (2 ^ (min 1 64)))), (160, vi (((Int.fdiv (IntKind.u64.wrap (a1 + a3)) (2 ^ (min 1 64))) + a2) - 1)), (159, .own 0 0 a0.length), (158, .fn (.func 21) [] [.ptr 1 0 0, .ptr 2 0 0, .ptr 3 0 0]), (0, .own 0 0 a0.length), (1, vi a1), (2, vi a2), (3, vi a3), (4, .fn (.func 21) [] [.ptr 1 0 0, .ptr 2 0 0, .ptr 3 0 0]), (18, vi (Int.fdiv (IntKind.u64.wrap (a1 + a3)) (2 ^ (min 1 64)))), (19, vi ((Int.fdiv (IntKind.u64.wrap (a1 + a3)) (2 ^ (min 1 64))) + a2)), (20, vi v20), (21, vi v21), (22, vi (((Int.fdiv (IntKind.u64.wrap (a1 + a3)) (2 ^ (min 1 64))) + a2) - 1)), (23, vi (Int.fdiv (IntKind.u64.wrap (v20 + v21)) (2 ^ (min 1 64))))] [some (.row 1 (List.map vi a0)), some (.row 1 [vi a4]), some (.row 1 [eS 1 vi a5]), some (.row 1 [vi a6]), none, none, none, none] (by kernel_rfl) ?_
        obtain ⟨c47, h⟩ := chk_some h
        refine dv (vi ((((Int.fdiv (IntKind.u64.wrap (a1 + a3)) (2 ^ (min 1 64))) + a2) - 1) - (Int.fdiv (IntKind.u64.wrap (v20 + v21)) (2 ^ (min 1 64))))) (cy (I0 162 (.bin .sub false (.t 160) (.t 161)))) (r_sub rfl rfl c47) rfl ?_
        obtain ⟨c48, h⟩ := chk_some h
        refine dv (.ptr 0 (((((Int.fdiv (IntKind.u64.wrap (a1 + a3)) (2 ^ (min 1 64))) + a2) - 1) - (Int.fdiv (IntKind.u64.wrap (v20 + v21)) (2 ^ (min 1 64)))).toNat) 0) (cy (I0 163 (.iaddr 1 (.t 159) (.t 162)))) (ok_iaddr_o0 (j := ((((Int.fdiv (IntKind.u64.wrap (a1 + a3)) (2 ^ (min 1 64))) + a2) - 1) - (Int.fdiv (IntKind.u64.wrap (v20 + v21)) (2 ^ (min 1 64)))).toNat) rfl rfl rfl (inB_to c48) (inB_lt c48)) rfl ?_
        obtain ⟨c49, h⟩ := chk_some h
        refine dv (vi (ix a0 (((((Int.fdiv (IntKind.u64.wrap (a1 + a3)) (2 ^ (min 1 64))) + a2) - 1) - (Int.fdiv (IntKind.u64.wrap (v20 + v21)) (2 ^ (min 1 64)))).toNat))) (cy (I0 164 (.load false 1 (.t 163)))) (ok_load_pm (l := a0) (e := vi) (v := vi (ix a0 (((((Int.fdiv (IntKind.u64.wrap (a1 + a3)) (2 ^ (min 1 64))) + a2) - 1) - (Int.fdiv (IntKind.u64.wrap (v20 + v21)) (2 ^ (min 1 64)))).toNat))) rfl rfl c49 rfl) rfl ?_
        refine RegD.run 2 [(166, vi (Int.fdiv (IntKind.u64.wrap (v20 + v21)) (2 ^ (min 1 64)))), (165, .own 0 0 a0.length), (164, vi (ix a0 (((((Int.fdiv (IntKind.u64.wrap (a1 + a3)) (2 ^ (min 1 64))) + a2) - 1) - (Int.fdiv (IntKind.u64.wrap (v20 + v21)) (2 ^ (min 1 64)))).toNat))), (163, .ptr 0 (((((Int.fdiv (IntKind.u64.wrap (a1 + a3)) (2 ^ (min 1 64))) + a2) - 1) - (Int.fdiv (IntKind.u64.wrap (v20 + v21)) (2 ^ (min 1 64)))).toNat) 0), (162, vi ((((Int.fdiv (IntKind.u64.wrap (a1 + a3)) (2 ^ (min 1 64))) + a2) - 1) - (Int.fdiv (IntKind.u64.wrap (v20 + v21)) (2 ^ (min 1 64))))), (161, vi (Int.fdiv (IntKind.u64.wrap (v20 + v21)) (2 ^ (min 1 64)))), (160, vi (((Int.fdiv (IntKind.u64.wrap (a1 + a3)) (2 ^ (min 1 64))) + a2) - 1)), (159, .own 0 0 a0.length), (158, .fn (.func 21) [] [.ptr 1 0 0, .ptr 2 0 0, .ptr 3 0 0]), (0, .own 0 0 a0.length), (1, vi a1), (2, vi a2), (3, vi a3), (4, .fn (.func 21) [] [.ptr 1 0 0, .ptr 2 0 0, .ptr 3 0 0]), (18, vi (Int.fdiv (IntKind.u64.wrap (a1 + a3)) (2 ^ (min 1 64)))), (19, vi ((Int.fdiv (IntKind.u64.wrap (a1 + a3)) (2 ^ (min 1 64))) + a2)), (20, vi v20), (21, vi v21), (22, vi (((Int.fdiv (IntKind.u64.wrap (a1 + a3)) (2 ^ (min 1 64))) + a2) - 1)), (23, vi (Int.fdiv (IntKind.u64.wrap (v20 + v21)) (2 ^ (min 1 64))))] [some (.row 1 (List.map vi a0)), some (.row 1 [vi a4]), some (.row 1 [eS 1 vi a5]), some (.row 1 [vi a6]), none, none, none, none, none, none, none, none, none] (by kernel_rfl) ?_
        obtain ⟨c50, h⟩ := chk_some h
        refine dv (.ptr 0 ((Int.fdiv (IntKind.u64.wrap (v20 + v21)) (2 ^ (min 1 64))).toNat) 0) (cy (I0 167 (.iaddr 1 (.t 165) (.t 166)))) (ok_iaddr_o0 (j := (Int.fdiv (IntKind.u64.wrap (v20 + v21)) (2 ^ (min 1 64))).toNat) rfl rfl rfl (inB_to c50) (inB_lt c50)) rfl ?_
        obtain ⟨c51, h⟩ := chk_some h
        refine dv (vi (ix a0 ((Int.fdiv (IntKind.u64.wrap (v20 + v21)) (2 ^ (min 1 64))).toNat))) (cy (I0 168 (.load false 1 (.t 167)))) (ok_load_pm (l := a0) (e := vi) (v := vi (ix a0 ((Int.fdiv (IntKind.u64.wrap (v20 + v21)) (2 ^ (min 1 64))).toNat))) rfl rfl c51 rfl) rfl ?_
        obtain ⟨y22, hy22, h⟩ := bind_some h
        refine RegD.op (OpD.dyn (y' := vi y22) (obx := [some (.row 1 [vi a4]), some (.row 1 [eS 1 vi a5]), some (.row 1 [vi a6])]) (oby := [some (.row 1 [vi a4]), some (.row 1 [eS 1 vi a5]), some (.row 1 [vi a6])]) (ob2 := [some (.row 1 (List.map vi a0)), some (.row 1 [vi a4]), some (.row 1 [eS 1 vi a5]), some (.row 1 [vi a6]), none, none, none, none, none, none, none, none, none, none, none, none]) (tch := []) 0 _ _ _ (cy (I0 169 (.dyn (.t 158) [(.t 164), (.t 168)]))) rfl (restore_Split_f2_ok n (ix a0 (((((Int.fdiv (IntKind.u64.wrap (a1 + a3)) (2 ^ (min 1 64))) + a2) - 1) - (Int.fdiv (IntKind.u64.wrap (v20 + v21)) (2 ^ (min 1 64)))).toNat)) (ix a0 ((Int.fdiv (IntKind.u64.wrap (v20 + v21)) (2 ^ (min 1 64))).toNat)) a4 a5 a6 y22 hy22) [1, 2, 3] (by kernel_rfl) (.cons rfl (.cons rfl (.cons rfl .nil))) (by kernel_rfl) (by kernel_rfl) (.cons rfl (.cons rfl (.cons rfl .nil))) (by kernel_rfl) (.cons rfl (.cons rfl (.cons rfl .nil))) (by kernel_rfl) rfl (.inr ⟨rfl, rfl⟩)) ?_
        refine RegD.run 2 [(171, vb (!(decide (y22 < (0 : Int))))), (170, vb (decide (y22 < (0 : Int)))), (169, vi y22), (168, vi (ix a0 ((Int.fdiv (IntKind.u64.wrap (v20 + v21)) (2 ^ (min 1 64))).toNat))), (167, .ptr 0 ((Int.fdiv (IntKind.u64.wrap (v20 + v21)) (2 ^ (min 1 64))).toNat) 0), (166, vi (Int.fdiv (IntKind.u64.wrap (v20 + v21)) (2 ^ (min 1 64)))), (165, .own 0 0 a0.length), (164, vi (ix a0 (((((Int.fdiv (IntKind.u64.wrap (a1 + a3)) (2 ^ (min 1 64))) + a2) - 1) - (Int.fdiv (IntKind.u64.wrap (v20 + v21)) (2 ^ (min 1 64)))).toNat))), (163, .ptr 0 (((((Int.fdiv (IntKind.u64.wrap (a1 + a3)) (2 ^ (min 1 64))) + a2) - 1) - (Int.fdiv (IntKind.u64.wrap (v20 + v21)) (2 ^ (min 1 64)))).toNat) 0), (162, vi ((((Int.fdiv (IntKind.u64.wrap (a1 + a3)) (2 ^ (min 1 64))) + a2) - 1) - (Int.fdiv (IntKind.u64.wrap (v20 + v21)) (2 ^ (min 1 64))))), (161, vi (Int.fdiv (IntKind.u64.wrap (v20 + v21)) (2 ^ (min 1 64)))), (160, vi (((Int.fdiv (IntKind.u64.wrap (a1 + a3)) (2 ^ (min 1 64))) + a2) - 1)), (159, .own 0 0 a0.length), (158, .fn (.func 21) [] [.ptr 1 0 0, .ptr 2 0 0, .ptr 3 0 0]), (0, .own 0 0 a0.length), (1, vi a1), (2, vi a2), (3, vi a3), (4, .fn (.func 21) [] [.ptr 1 0 0, .ptr 2 0 0, .ptr 3 0 0]), (18, vi (Int.fdiv (IntKind.u64.wrap (a1 + a3)) (2 ^ (min 1 64)))), (19, vi ((Int.fdiv (IntKind.u64.wrap (a1 + a3)) (2 ^ (min 1 64))) + a2)), (20, vi v20), (21, vi v21), (22, vi (((Int.fdiv (IntKind.u64.wrap (a1 + a3)) (2 ^ (min 1 64))) + a2) - 1)), (23, vi (Int.fdiv (IntKind.u64.wrap (v20 + v21)) (2 ^ (min 1 64))))] [some (.row 1 (List.map vi a0)), some (.row 1 [vi a4]), some (.row 1 [eS 1 vi a5]), some (.row 1 [vi a6]), none, none, none, none, none, none, none, none, none, none, none, none, none, none] (by kernel_rfl) ?_
        refine RegD.done rfl (by kernel_rfl) (S' := ⟨[(0, .own 0 0 a0.length), (1, vi a1), (2, vi a2), (3, vi a3), (4, .fn (.func 21) [] [.ptr 1 0 0, .ptr 2 0 0, .ptr 3 0 0]), (18, vi (Int.fdiv (IntKind.u64.wrap (a1 + a3)) (2 ^ (min 1 64)))), (19, vi ((Int.fdiv (IntKind.u64.wrap (a1 + a3)) (2 ^ (min 1 64))) + a2)), (20, vi v20), (21, vi v21), (22, vi (((Int.fdiv (IntKind.u64.wrap (a1 + a3)) (2 ^ (min 1 64))) + a2) - 1)), (23, vi (Int.fdiv (IntKind.u64.wrap (v20 + v21)) (2 ^ (min 1 64)))), (171, vb (!(decide (y22 < (0 : Int)))))], [some (.row 1 (List.map vi a0)), some (.row 1 [vi a4]), some (.row 1 [eS 1 vi a5]), some (.row 1 [vi a6])]⟩) (sc [0, 1, 2, 3] (by decide) (by kernel_rfl) (obRen_row vi_frz rfl (.cons rfl (.cons rfl (.cons rfl .nil)))) rfl rfl) ?_
        refine TriE.cond (b := !(decide (y22 < (0 : Int)))) rfl (fun c52 => ?_) (fun c52 => ?_)
        · have h := cond_t h c52
          refine TriE.regJ ?_
          refine rn 1 [(0, .own 0 0 a0.length), (1, vi a1), (2, vi a2), (3, vi a3), (4, .fn (.func 21) [] [.ptr 1 0 0, .ptr 2 0 0, .ptr 3 0 0]), (18, vi (Int.fdiv (IntKind.u64.wrap (a1 + a3)) (2 ^ (min 1 64)))), (19, vi ((Int.fdiv (IntKind.u64.wrap (a1 + a3)) (2 ^ (min 1 64))) + a2)), (21, vi v21), (22, vi (((Int.fdiv (IntKind.u64.wrap (a1 + a3)) (2 ^ (min 1 64))) + a2) - 1)), (172, vi (Int.fdiv (IntKind.u64.wrap (v20 + v21)) (2 ^ (min 1 64))))] [some (.row 1 (List.map vi a0)), some (.row 1 [vi a4]), some (.row 1 [eS 1 vi a5]), some (.row 1 [vi a6])] ?_
          obtain ⟨c53, h⟩ := chk_some h
          refine jv (vi ((Int.fdiv (IntKind.u64.wrap (v20 + v21)) (2 ^ (min 1 64))) + 1)) (cy (I0 173 (.bin .add false (.t 172) (.c (.p (.int .i64 1)))))) (r_add rfl rfl c53) rfl ?_
          refine jq 1 [(0, .own 0 0 a0.length), (1, vi a1), (2, vi a2), (3, vi a3), (4, .fn (.func 21) [] [.ptr 1 0 0, .ptr 2 0 0, .ptr 3 0 0]), (18, vi (Int.fdiv (IntKind.u64.wrap (a1 + a3)) (2 ^ (min 1 64)))), (19, vi ((Int.fdiv (IntKind.u64.wrap (a1 + a3)) (2 ^ (min 1 64))) + a2)), (21, vi v21), (22, vi (((Int.fdiv (IntKind.u64.wrap (a1 + a3)) (2 ^ (min 1 64))) + a2) - 1)), (20, vi ((Int.fdiv (IntKind.u64.wrap (v20 + v21)) (2 ^ (min 1 64))) + 1))] [some (.row 1 (List.map vi a0)), some (.row 1 [vi a4]), some (.row 1 [eS 1 vi a5]), some (.row 1 [vi a6])] ?_
          exact Vs.intro sy ⟨((Int.fdiv (IntKind.u64.wrap (v20 + v21)) (2 ^ (min 1 64))) + 1, v21), rfl, h⟩
        have h := cond_f h c52
        refine tr [(0, .own 0 0 a0.length), (1, vi a1), (2, vi a2), (3, vi a3), (4, .fn (.func 21) [] [.ptr 1 0 0, .ptr 2 0 0, .ptr 3 0 0]), (18, vi (Int.fdiv (IntKind.u64.wrap (a1 + a3)) (2 ^ (min 1 64)))), (19, vi ((Int.fdiv (IntKind.u64.wrap (a1 + a3)) (2 ^ (min 1 64))) + a2)), (20, vi v20), (22, vi (((Int.fdiv (IntKind.u64.wrap (a1 + a3)) (2 ^ (min 1 64))) + a2) - 1)), (21, vi (Int.fdiv (IntKind.u64.wrap (v20 + v21)) (2 ^ (min 1 64))))] [some (.row 1 (List.map vi a0)), some (.row 1 [vi a4]), some (.row 1 [eS 1 vi a5]), some (.row 1 [vi a6])] ?_
        exact Vs.intro sy ⟨(v20, Int.fdiv (IntKind.u64.wrap (v20 + v21)) (2 ^ (min 1 64))), rfl, h⟩
      have h := cond_f h c44
      refine TriE.exit ?_
      exact Vs.intro sy ⟨v20, rfl, h⟩
    intro k5 h
    refine sr [(0, .own 0 0 a0.length), (1, vi a1), (2, vi a2), (3, vi a3), (4, .fn (.func 21) [] [.ptr 1 0 0, .ptr 2 0 0, .ptr 3 0 0]), (18, vi (Int.fdiv (IntKind.u64.wrap (a1 + a3)) (2 ^ (min 1 64)))), (19, vi ((Int.fdiv (IntKind.u64.wrap (a1 + a3)) (2 ^ (min 1 64))) + a2)), (140, vb (decide ((Int.fdiv (IntKind.u64.wrap (a1 + a3)) (2 ^ (min 1 64))) < a2)))] [some (.row 1 (List.map vi a0)), some (.row 1 [vi a4]), some (.row 1 [eS 1 vi a5]), some (.row 1 [vi a6])] ?_
    refine TriE.cond (b := decide ((Int.fdiv (IntKind.u64.wrap (a1 + a3)) (2 ^ (min 1 64))) < a2)) rfl (fun c41 => ?_) (fun c41 => ?_)
    · have h := cond_t h c41
      refine sj ?_
      refine rn 2 [(0, .own 0 0 a0.length), (1, vi a1), (2, vi a2), (3, vi a3), (4, .fn (.func 21) [] [.ptr 1 0 0, .ptr 2 0 0, .ptr 3 0 0]), (18, vi (Int.fdiv (IntKind.u64.wrap (a1 + a3)) (2 ^ (min 1 64)))), (19, vi ((Int.fdiv (IntKind.u64.wrap (a1 + a3)) (2 ^ (min 1 64))) + a2)), (141, vi ((Int.fdiv (IntKind.u64.wrap (a1 + a3)) (2 ^ (min 1 64))) + a2)), (142, vi a3)] [some (.row 1 (List.map vi a0)), some (.row 1 [vi a4]), some (.row 1 [eS 1 vi a5]), some (.row 1 [vi a6])] ?_
      obtain ⟨c42, h⟩ := chk_some h
      refine jv (vi (((Int.fdiv (IntKind.u64.wrap (a1 + a3)) (2 ^ (min 1 64))) + a2) - a3)) (cy (I0 143 (.bin .sub false (.t 141) (.t 142)))) (r_sub rfl rfl c42) rfl ?_
      refine jq 1 [(0, .own 0 0 a0.length), (1, vi a1), (2, vi a2), (3, vi a3), (4, .fn (.func 21) [] [.ptr 1 0 0, .ptr 2 0 0, .ptr 3 0 0]), (18, vi (Int.fdiv (IntKind.u64.wrap (a1 + a3)) (2 ^ (min 1 64)))), (19, vi ((Int.fdiv (IntKind.u64.wrap (a1 + a3)) (2 ^ (min 1 64))) + a2)), (20, vi (((Int.fdiv (IntKind.u64.wrap (a1 + a3)) (2 ^ (min 1 64))) + a2) - a3))] [some (.row 1 (List.map vi a0)), some (.row 1 [vi a4]), some (.row 1 [eS 1 vi a5]), some (.row 1 [vi a6])] ?_
      refine tr [(0, .own 0 0 a0.length), (1, vi a1), (2, vi a2), (3, vi a3), (4, .fn (.func 21) [] [.ptr 1 0 0, .ptr 2 0 0, .ptr 3 0 0]), (18, vi (Int.fdiv (IntKind.u64.wrap (a1 + a3)) (2 ^ (min 1 64)))), (19, vi ((Int.fdiv (IntKind.u64.wrap (a1 + a3)) (2 ^ (min 1 64))) + a2)), (20, vi (((Int.fdiv (IntKind.u64.wrap (a1 + a3)) (2 ^ (min 1 64))) + a2) - a3)), (21, vi (Int.fdiv (IntKind.u64.wrap (a1 + a3)) (2 ^ (min 1 64))))] [some (.row 1 (List.map vi a0)), some (.row 1 [vi a4]), some (.row 1 [eS 1 vi a5]), some (.row 1 [vi a6])] ?_
      exact Vs.intro Sees.refl ⟨(((Int.fdiv (IntKind.u64.wrap (a1 + a3)) (2 ^ (min 1 64))) + a2) - a3, Int.fdiv (IntKind.u64.wrap (a1 + a3)) (2 ^ (min 1 64))), rfl, h⟩
    have h := cond_f h c41
    refine sr [(0, .own 0 0 a0.length), (1, vi a1), (2, vi a2), (3, vi a3), (4, .fn (.func 21) [] [.ptr 1 0 0, .ptr 2 0 0, .ptr 3 0 0]), (18, vi (Int.fdiv (IntKind.u64.wrap (a1 + a3)) (2 ^ (min 1 64)))), (19, vi ((Int.fdiv (IntKind.u64.wrap (a1 + a3)) (2 ^ (min 1 64))) + a2)), (20, vi a1)] [some (.row 1 (List.map vi a0)), some (.row 1 [vi a4]), some (.row 1 [eS 1 vi a5]), some (.row 1 [vi a6])] ?_
    refine tr [(0, .own 0 0 a0.length), (1, vi a1), (2, vi a2), (3, vi a3), (4, .fn (.func 21) [] [.ptr 1 0 0, .ptr 2 0 0, .ptr 3 0 0]), (18, vi (Int.fdiv (IntKind.u64.wrap (a1 + a3)) (2 ^ (min 1 64)))), (19, vi ((Int.fdiv (IntKind.u64.wrap (a1 + a3)) (2 ^ (min 1 64))) + a2)), (20, vi a1), (21, vi a2)] [some (.row 1 (List.map vi a0)), some (.row 1 [vi a4]), some (.row 1 [eS 1 vi a5]), some (.row 1 [vi a6])] ?_
    exact Vs.intro Sees.refl ⟨(a1, a2), rfl, h⟩
theorem slices_symMergeCmpFunc_int_ok (n : Nat) (a0 : List Int) (a1 : Int) (a2 : Int) (a3 : Int) (a4 : Int) (a5 : List Int) (a6 : Int) (r : (List Int)) (h : slices_symMergeCmpFunc_int n a0 a1 a2 a3 a4 a5 a6 = some r) : FnL Try.prog 54 [.own 0 0 a0.length, vi a1, vi a2, vi a3, .fn (.func 21) [] [.ptr 1 0 0, .ptr 2 0 0, .ptr 3 0 0]] [some (.row 1 (List.map vi a0)), some (.row 1 [vi a4]), some (.row 1 [eS 1 vi a5]), some (.row 1 [vi a6])] (.tup []) [some (.row 1 (List.map vi r)), some (.row 1 [vi a4]), some (.row 1 [eS 1 vi a5]), some (.row 1 [vi a6])] := slices_symMergeCmpFunc_int_ok_ n n a0 a1 a2 a3 a4 a5 a6 r h
theorem slices_stableCmpFunc_int_ok (n : Nat) (a0 : List Int) (a1 : Int) (a2 : Int) (a3 : List Int) (a4 : Int) (r : (List Int)) (h : slices_stableCmpFunc_int n a0 a1 a2 a3 a4 = some r) : FnL Try.prog 38 [.own 0 0 a0.length, vi a1, .fn (.func 21) [] [.ptr 1 0 0, .ptr 2 0 0, .ptr 3 0 0]] [some (.row 1 (List.map vi a0)), some (.row 1 [vi a2]), some (.row 1 [eS 1 vi a3]), some (.row 1 [vi a4])] (.tup []) [some (.row 1 (List.map vi r)), some (.row 1 [vi a2]), some (.row 1 [eS 1 vi a3]), some (.row 1 [vi a4])] := by
  dsimp only [slices_stableCmpFunc_int] at h
  refine FnL.ofS (ts := []) Try.call38 Try.func38 rfl rfl (Nat.le_of_ble_eq_true rfl) (Nat.le_of_ble_eq_true rfl) (hall_of (.cons rfl (.cons rfl (.cons rfl (.cons rfl .nil))))) ?_
  refine sr [(0, .own 0 0 a0.length), (1, vi a1), (2, .fn (.func 21) [] [.ptr 1 0 0, .ptr 2 0 0, .ptr 3 0 0]), (6, vi 20)] [some (.row 1 (List.map vi a0)), some (.row 1 [vi a2]), some (.row 1 [eS 1 vi a3]), some (.row 1 [vi a4])] ?_
  refine sr [(0, .own 0 0 a0.length), (1, vi a1), (2, .fn (.func 21) [] [.ptr 1 0 0, .ptr 2 0 0, .ptr 3 0 0]), (6, vi 20), (7, vi 0), (8, vi 20)] [some (.row 1 (List.map vi a0)), some (.row 1 [vi a2]), some (.row 1 [eS 1 vi a3]), some (.row 1 [vi a4])] ?_
  refine TriE.seqK h (fun (t : Int × (List Int)) => match t with | (v6, v7) => St.mk [(0, .own 0 0 v7.length), (1, vi a1), (2, .fn (.func 21) [] [.ptr 1 0 0, .ptr 2 0 0, .ptr 3 0 0]), (6, vi 20), (7, vi v6)] [some (.row 1 (List.map vi v7)), some (.row 1 [vi a2]), some (.row 1 [eS 1 vi a3]), some (.row 1 [vi a4])]) ?_ ?_
  · rintro ⟨v6, v7⟩ h
    refine sj ?_
    refine rn 4 [(0, .own 0 0 v7.length), (1, vi a1), (2, .fn (.func 21) [] [.ptr 1 0 0, .ptr 2 0 0, .ptr 3 0 0]), (6, vi 20), (23, .own 0 0 v7.length), (24, vi v6), (25, vi a1), (26, .fn (.func 21) [] [.ptr 1 0 0, .ptr 2 0 0, .ptr 3 0 0])] [some (.row 1 (List.map vi v7)), some (.row 1 [vi a2]), some (.row 1 [eS 1 vi a3]), some (.row 1 [vi a4])] ?_
    obtain ⟨y8, hy8, h⟩ := bind_some h
    refine RegJ.op (Op1.call (y' := .tup []) (obx := [some (.row 1 (List.map vi v7)), some (.row 1 [vi a2]), some (.row 1 [eS 1 vi a3]), some (.row 1 [vi a4])]) (oby := [some (.row 1 (List.map vi y8)), some (.row 1 [vi a2]), some (.row 1 [eS 1 vi a3]), some (.row 1 [vi a4])]) (ob2 := [some (.row 1 (List.map vi y8)), some (.row 1 [vi a2]), some (.row 1 [eS 1 vi a3]), some (.row 1 [vi a4])]) _ _ (cy (I0 27 (.call 53 [(.t 23), (.t 24), (.t 25), (.t 26)]))) rfl (slices_insertionSortCmpFunc_int_ok n v7 v6 a1 a2 a3 a4 y8 hy8) [0, 1, 2, 3] (by kernel_rfl) (.cons rfl (.cons rfl (.cons rfl (.cons rfl (.cons rfl .nil))))) (by kernel_rfl) (by kernel_rfl) (.same (row_ren vi_frz _ _ _) (.cons rfl (.cons rfl (.cons rfl .nil)))) (by kernel_rfl) (.same (row_ren vi_frz _ _ _) (.cons rfl (.cons rfl (.cons rfl .nil)))) (by kernel_rfl)) ?_
    obtain ⟨c4, h⟩ := chk_some h
    refine RegJ.sees (S' := ⟨[(0, .own 0 0 y8.length), (1, vi a1), (2, .fn (.func 21) [] [.ptr 1 0 0, .ptr 2 0 0, .ptr 3 0 0]), (6, vi 20), (23, .own 0 0 y8.length), (24, vi v6), (25, vi a1), (26, .fn (.func 21) [] [.ptr 1 0 0, .ptr 2 0 0, .ptr 3 0 0]), (27, .tup [])], [some (.row 1 (List.map vi y8)), some (.row 1 [vi a2]), some (.row 1 [eS 1 vi a3]), some (.row 1 [vi a4])]⟩) (Sees.cov (Cov.mk2 (rs := [0, 1, 2, 3]) (by decide) rfl rfl (.cons (.inl (by rw [show v7.length = y8.length from of_decide_eq_true c4]; rfl)) (.cons (.inl rfl) (.cons (.inl rfl) (.cons (.inl rfl) (.cons (.inl (by rw [show v7.length = y8.length from of_decide_eq_true c4]; rfl)) (.cons (.inl rfl) (.cons (.inl rfl) (.cons (.inl rfl) (.cons (.inl rfl) .nil))))))))) (obRen_row vi_frz rfl (.cons rfl (.cons rfl (.cons rfl .nil)))))) ?_
    refine jp [(0, .own 0 0 y8.length), (1, vi a1), (2, .fn (.func 21) [] [.ptr 1 0 0, .ptr 2 0 0, .ptr 3 0 0]), (6, vi 20)] ?_
    refine TriE.block ?_
    refine TriE.loopN h (fun (t : Int × (List Int)) => match t with | (v18, v19) => St.mk [(0, .own 0 0 v19.length), (1, vi a1), (2, .fn (.func 21) [] [.ptr 1 0 0, .ptr 2 0 0, .ptr 3 0 0]), (6, vi v18)] [some (.row 1 (List.map vi v19)), some (.row 1 [vi a2]), some (.row 1 [eS 1 vi a3]), some (.row 1 [vi a4])]) rfl ?_
    clear h
    rintro back ⟨v18, v19⟩ h
    dsimp only [slices_stableCmpFunc_int_L3] at h
    refine TriE.seq ?_
    refine sr [(0, .own 0 0 v19.length), (1, vi a1), (2, .fn (.func 21) [] [.ptr 1 0 0, .ptr 2 0 0, .ptr 3 0 0]), (6, vi v18), (30, vb (decide (v18 < a1)))] [some (.row 1 (List.map vi v19)), some (.row 1 [vi a2]), some (.row 1 [eS 1 vi a3]), some (.row 1 [vi a4])] ?_
    refine TriE.cond (b := decide (v18 < a1)) rfl (fun c5 => ?_) (fun c5 => ?_)
    · have h := cond_t h c5
      refine TriE.skip ?_
      refine TriE.block ?_
      refine sj ?_
      refine rn 1 [(0, .own 0 0 v19.length), (1, vi a1), (2, .fn (.func 21) [] [.ptr 1 0 0, .ptr 2 0 0, .ptr 3 0 0]), (6, vi v18), (31, vi v18)] [some (.row 1 (List.map vi v19)), some (.row 1 [vi a2]), some (.row 1 [eS 1 vi a3]), some (.row 1 [vi a4])] ?_
      obtain ⟨c6, h⟩ := chk_some h
      refine jv (vi (2 * v18)) (cy (I0 32 (.bin .mul false (.c (.p (.int .i64 2))) (.t 31)))) (r_mul rfl rfl c6) rfl ?_
      refine jq 2 [(0, .own 0 0 v19.length), (1, vi a1), (2, .fn (.func 21) [] [.ptr 1 0 0, .ptr 2 0 0, .ptr 3 0 0]), (6, vi v18), (7, vi 0), (8, vi (2 * v18))] [some (.row 1 (List.map vi v19)), some (.row 1 [vi a2]), some (.row 1 [eS 1 vi a3]), some (.row 1 [vi a4])] ?_
      refine TriE.seqK h (fun (t : Int × (List Int)) => match t with | (v25, v26) => St.mk [(0, .own 0 0 v26.length), (1, vi a1), (2, .fn (.func 21) [] [.ptr 1 0 0, .ptr 2 0 0, .ptr 3 0 0]), (6, vi v18), (7, vi v25)] [some (.row 1 (List.map vi v26)), some (.row 1 [vi a2]), some (.row 1 [eS 1 vi a3]), some (.row 1 [vi a4])]) ?_ ?_
      · rintro ⟨v25, v26⟩ h
        refine TriE.seqK h (fun (v28 : (List Int)) => St.mk [(0, .own 0 0 v28.length), (1, vi a1), (2, .fn (.func 21) [] [.ptr 1 0 0, .ptr 2 0 0, .ptr 3 0 0]), (6, vi v18)] [some (.row 1 (List.map vi v28)), some (.row 1 [vi a2]), some (.row 1 [eS 1 vi a3]), some (.row 1 [vi a4])]) ?_ ?_
        · rintro v28 h
          refine TriE.regJ ?_
          refine rn 1 [(0, .own 0 0 v28.length), (1, vi a1), (2, .fn (.func 21) [] [.ptr 1 0 0, .ptr 2 0 0, .ptr 3 0 0]), (61, vi v18)] [some (.row 1 (List.map vi v28)), some (.row 1 [vi a2]), some (.row 1 [eS 1 vi a3]), some (.row 1 [vi a4])] ?_
          obtain ⟨c14, h⟩ := chk_some h
          refine jv (vi (v18 * 2)) (cy (I0 62 (.bin .mul false (.t 61) (.c (.p (.int .i64 2)))))) (r_mul rfl rfl c14) rfl ?_
          refine jq 1 [(0, .own 0 0 v28.length), (1, vi a1), (2, .fn (.func 21) [] [.ptr 1 0 0, .ptr 2 0 0, .ptr 3 0 0]), (6, vi (v18 * 2))] [some (.row 1 (List.map vi v28)), some (.row 1 [vi a2]), some (.row 1 [eS 1 vi a3]), some (.row 1 [vi a4])] ?_
          exact Vs.intro Sees.refl ⟨(v18 * 2, v28), rfl, h⟩
        intro k3 h
        refine sj ?_
        refine rn 2 [(0, .own 0 0 v26.length), (1, vi a1), (2, .fn (.func 21) [] [.ptr 1 0 0, .ptr 2 0 0, .ptr 3 0 0]), (6, vi v18), (7, vi v25), (49, vi v25), (50, vi v18)] [some (.row 1 (List.map vi v26)), some (.row 1 [vi a2]), some (.row 1 [eS 1 vi a3]), some (.row 1 [vi a4])] ?_
        obtain ⟨c11, h⟩ := chk_some h
        refine jv (vi (v25 + v18)) (cy (I0 51 (.bin .add false (.t 49) (.t 50)))) (r_add rfl rfl c11) rfl ?_
        refine jq 1 [(0, .own 0 0 v26.length), (1, vi a1), (2, .fn (.func 21) [] [.ptr 1 0 0, .ptr 2 0 0, .ptr 3 0 0]), (6, vi v18), (7, vi v25), (9, vi (v25 + v18))] [some (.row 1 (List.map vi v26)), some (.row 1 [vi a2]), some (.row 1 [eS 1 vi a3]), some (.row 1 [vi a4])] ?_
        refine sr [(0, .own 0 0 v26.length), (1, vi a1), (2, .fn (.func 21) [] [.ptr 1 0 0, .ptr 2 0 0, .ptr 3 0 0]), (6, vi v18), (7, vi v25), (9, vi (v25 + v18)), (54, vb (decide ((v25 + v18) < a1)))] [some (.row 1 (List.map vi v26)), some (.row 1 [vi a2]), some (.row 1 [eS 1 vi a3]), some (.row 1 [vi a4])] ?_
        refine TriE.cond (b := decide ((v25 + v18) < a1)) rfl (fun c12 => ?_) (fun c12 => ?_)
        · have h := cond_t h c12
          refine TriE.regJ ?_
          refine rn 5 [(0, .own 0 0 v26.length), (1, vi a1), (2, .fn (.func 21) [] [.ptr 1 0 0, .ptr 2 0 0, .ptr 3 0 0]), (6, vi v18), (55, .own 0 0 v26.length), (56, vi v25), (57, vi (v25 + v18)), (58, vi a1), (59, .fn (.func 21) [] [.ptr 1 0 0, .ptr 2 0 0, .ptr 3 0 0])] [some (.row 1 (List.map vi v26)), some (.row 1 [vi a2]), some (.row 1 [eS 1 vi a3]), some (.row 1 [vi a4])] ?_
          obtain ⟨y27, hy27, h⟩ := bind_some h
          refine RegJ.op (Op1.call (y' := .tup []) (obx := [some (.row 1 (List.map vi v26)), some (.row 1 [vi a2]), some (.row 1 [eS 1 vi a3]), some (.row 1 [vi a4])]) (oby := [some (.row 1 (List.map vi y27)), some (.row 1 [vi a2]), some (.row 1 [eS 1 vi a3]), some (.row 1 [vi a4])]) (ob2 := [some (.row 1 (List.map vi y27)), some (.row 1 [vi a2]), some (.row 1 [eS 1 vi a3]), some (.row 1 [vi a4])]) _ _ (cy (I0 60 (.call 54 [(.t 55), (.t 56), (.t 57), (.t 58), (.t 59)]))) rfl (slices_symMergeCmpFunc_int_ok n v26 v25 (v25 + v18) a1 a2 a3 a4 y27 hy27) [0, 1, 2, 3] (by kernel_rfl) (.cons rfl (.cons rfl (.cons rfl (.cons rfl (.cons rfl (.cons rfl .nil)))))) (by kernel_rfl) (by kernel_rfl) (.same (row_ren vi_frz _ _ _) (.cons rfl (.cons rfl (.cons rfl .nil)))) (by kernel_rfl) (.same (row_ren vi_frz _ _ _) (.cons rfl (.cons rfl (.cons rfl .nil)))) (by kernel_rfl)) ?_
          obtain ⟨c13, h⟩ := chk_some h
          refine RegJ.sees (S' := ⟨[(0, .own 0 0 y27.length), (1, vi a1), (2, .fn (.func 21) [] [.ptr 1 0 0, .ptr 2 0 0, .ptr 3 0 0]), (6, vi v18), (55, .own 0 0 y27.length), (56, vi v25), (57, vi (v25 + v18)), (58, vi a1), (59, .fn (.func 21) [] [.ptr 1 0 0, .ptr 2 0 0, .ptr 3 0 0]), (60, .tup [])], [some (.row 1 (List.map vi y27)), some (.row 1 [vi a2]), some (.row 1 [eS 1 vi a3]), some (.row 1 [vi a4])]⟩) (Sees.cov (Cov.mk2 (rs := [0, 1, 2, 3]) (by decide) rfl rfl (.cons (.inl (by rw [show v26.length = y27.length from of_decide_eq_true c13]; rfl)) (.cons (.inl rfl) (.cons (.inl rfl) (.cons (.inl rfl) (.cons (.inl (by rw [show v26.length = y27.length from of_decide_eq_true c13]; rfl)) (.cons (.inl rfl) (.cons (.inl rfl) (.cons (.inl rfl) (.cons (.inl rfl) (.cons (.inl rfl) .nil)))))))))) (obRen_row vi_frz rfl (.cons rfl (.cons rfl (.cons rfl .nil)))))) ?_
          refine jp [(0, .own 0 0 y27.length), (1, vi a1), (2, .fn (.func 21) [] [.ptr 1 0 0, .ptr 2 0 0, .ptr 3 0 0]), (6, vi v18)] ?_
          exact Vs.intro Sees.refl ⟨y27, rfl, h⟩
        have h := cond_f h c12
        refine TriE.skip ?_
        exact Vs.intro sy ⟨v26, rfl, h⟩
      intro k2 h
      refine TriE.block ?_
      refine TriE.loopN h (fun (t : Int × Int × (List Int)) => match t with | (v21, v22, v23) => St.mk [(0, .own 0 0 v23.length), (1, vi a1), (2, .fn (.func 21) [] [.ptr 1 0 0, .ptr 2 0 0, .ptr 3 0 0]), (6, vi v18), (7, vi v21), (8, vi v22)] [some (.row 1 (List.map vi v23)), some (.row 1 [vi a2]), some (.row 1 [eS 1 vi a3]), some (.row 1 [vi a4])]) rfl ?_
      clear h
      rintro back ⟨v21, v22, v23⟩ h
      dsimp only [slices_stableCmpFunc_int_L2] at h
      refine TriE.seq ?_
      refine sr [(0, .own 0 0 v23.length), (1, vi a1), (2, .fn (.func 21) [] [.ptr 1 0 0, .ptr 2 0 0, .ptr 3 0 0]), (6, vi v18), (7, vi v21), (8, vi v22), (35, vb (decide (v22 ≤ a1)))] [some (.row 1 (List.map vi v23)), some (.row 1 [vi a2]), some (.row 1 [eS 1 vi a3]), some (.row 1 [vi a4])] ?_
      refine TriE.cond (b := decide (v22 ≤ a1)) rfl (fun c7 => ?_) (fun c7 => ?_)
      · have h := cond_t h c7
        refine TriE.skip ?_
        refine TriE.block ?_
        refine sj ?_
        refine rn 4 [(0, .own 0 0 v23.length), (1, vi a1), (2, .fn (.func 21) [] [.ptr 1 0 0, .ptr 2 0 0, .ptr 3 0 0]), (6, vi v18), (8, vi v22), (36, .own 0 0 v23.length), (37, vi v21), (38, vi v21), (39, vi v18)] [some (.row 1 (List.map vi v23)), some (.row 1 [vi a2]), some (.row 1 [eS 1 vi a3]), some (.row 1 [vi a4])] ?_
        obtain ⟨c8, h⟩ := chk_some h
        refine jv (vi (v21 + v18)) (cy (I0 40 (.bin .add false (.t 38) (.t 39)))) (r_add rfl rfl c8) rfl ?_
        refine rn 2 [(0, .own 0 0 v23.length), (1, vi a1), (2, .fn (.func 21) [] [.ptr 1 0 0, .ptr 2 0 0, .ptr 3 0 0]), (6, vi v18), (8, vi v22), (36, .own 0 0 v23.length), (37, vi v21), (40, vi (v21 + v18)), (41, vi v22), (42, .fn (.func 21) [] [.ptr 1 0 0, .ptr 2 0 0, .ptr 3 0 0])] [some (.row 1 (List.map vi v23)), some (.row 1 [vi a2]), some (.row 1 [eS 1 vi a3]), some (.row 1 [vi a4])] ?_
        obtain ⟨y24, hy24, h⟩ := bind_some h
        refine RegJ.op (Op1.call (y' := .tup []) (obx := [some (.row 1 (List.map vi v23)), some (.row 1 [vi a2]), some (.row 1 [eS 1 vi a3]), some (.row 1 [vi a4])]) (oby := [some (.row 1 (List.map vi y24)), some (.row 1 [vi a2]), some (.row 1 [eS 1 vi a3]), some (.row 1 [vi a4])]) (ob2 := [some (.row 1 (List.map vi y24)), some (.row 1 [vi a2]), some (.row 1 [eS 1 vi a3]), some (.row 1 [vi a4])]) _ _ (cy (I0 43 (.call 54 [(.t 36), (.t 37), (.t 40), (.t 41), (.t 42)]))) rfl (slices_symMergeCmpFunc_int_ok n v23 v21 (v21 + v18) v22 a2 a3 a4 y24 hy24) [0, 1, 2, 3] (by kernel_rfl) (.cons rfl (.cons rfl (.cons rfl (.cons rfl (.cons rfl (.cons rfl .nil)))))) (by kernel_rfl) (by kernel_rfl) (.same (row_ren vi_frz _ _ _) (.cons rfl (.cons rfl (.cons rfl .nil)))) (by kernel_rfl) (.same (row_ren vi_frz _ _ _) (.cons rfl (.cons rfl (.cons rfl .nil)))) (by kernel_rfl)) ?_
        obtain ⟨c9, h⟩ := chk_some h
        refine RegJ.sees (S' := ⟨[(0, .own 0 0 y24.length), (1, vi a1), (2, .fn (.func 21) [] [.ptr 1 0 0, .ptr 2 0 0, .ptr 3 0 0]), (6, vi v18), (8, vi v22), (36, .own 0 0 y24.length), (37, vi v21), (40, vi (v21 + v18)), (41, vi v22), (42, .fn (.func 21) [] [.ptr 1 0 0, .ptr 2 0 0, .ptr 3 0 0]), (43, .tup [])], [some (.row 1 (List.map vi y24)), some (.row 1 [vi a2]), some (.row 1 [eS 1 vi a3]), some (.row 1 [vi a4])]⟩) (Sees.cov (Cov.mk2 (rs := [0, 1, 2, 3]) (by decide) rfl rfl (.cons (.inl (by rw [show v23.length = y24.length from of_decide_eq_true c9]; rfl)) (.cons (.inl rfl) (.cons (.inl rfl) (.cons (.inl rfl) (.cons (.inl rfl) (.cons (.inl (by rw [show v23.length = y24.length from of_decide_eq_true c9]; rfl)) (.cons (.inl rfl) (.cons (.inl rfl) (.cons (.inl rfl) (.cons (.inl rfl) (.cons (.inl rfl) .nil))))))))))) (obRen_row vi_frz rfl (.cons rfl (.cons rfl (.cons rfl .nil)))))) ?_
        refine jp [(0, .own 0 0 y24.length), (1, vi a1), (2, .fn (.func 21) [] [.ptr 1 0 0, .ptr 2 0 0, .ptr 3 0 0]), (6, vi v18), (8, vi v22)] ?_
        refine sr [(0, .own 0 0 y24.length), (1, vi a1), (2, .fn (.func 21) [] [.ptr 1 0 0, .ptr 2 0 0, .ptr 3 0 0]), (6, vi v18), (8, vi v22), (7, vi v22)] [some (.row 1 (List.map vi y24)), some (.row 1 [vi a2]), some (.row 1 [eS 1 vi a3]), some (.row 1 [vi a4])] ?_
        refine TriE.regJ ?_
        refine rn 2 [(0, .own 0 0 y24.length), (1, vi a1), (2, .fn (.func 21) [] [.ptr 1 0 0, .ptr 2 0 0, .ptr 3 0 0]), (6, vi v18), (7, vi v22), (45, vi v22), (46, vi v18)] [some (.row 1 (List.map vi y24)), some (.row 1 [vi a2]), some (.row 1 [eS 1 vi a3]), some (.row 1 [vi a4])] ?_
        refine jv (vi (2 * v18)) (cy (I0 47 (.bin .mul false (.c (.p (.int .i64 2))) (.t 46)))) (r_mul rfl rfl c6) rfl ?_
        obtain ⟨c10, h⟩ := chk_some h
        refine jv (vi (v22 + (2 * v18))) (cy (I0 48 (.bin .add false (.t 45) (.t 47)))) (r_add rfl rfl c10) rfl ?_
        refine jq 1 [(0, .own 0 0 y24.length), (1, vi a1), (2, .fn (.func 21) [] [.ptr 1 0 0, .ptr 2 0 0, .ptr 3 0 0]), (6, vi v18), (7, vi v22), (8, vi (v22 + (2 * v18)))] [some (.row 1 (List.map vi y24)), some (.row 1 [vi a2]), some (.row 1 [eS 1 vi a3]), some (.row 1 [vi a4])] ?_
        exact Vs.intro Sees.refl ⟨(v22, v22 + (2 * v18), y24), rfl, h⟩
      have h := cond_f h c7
      refine TriE.exit ?_
      exact Vs.intro sy ⟨(v21, v23), rfl, h⟩
    have h := cond_f h c5
    refine TriE.exit ?_
    have h := Option.some.inj h
    subst h
    exact DoneS.normal (S' := ⟨[], [some (.row 1 (List.map vi v19)), some (.row 1 [vi a2]), some (.row 1 [eS 1 vi a3]), some (.row 1 [vi a4])]⟩) sy rfl rfl
  intro k1 h
  refine TriE.block ?_
  refine TriE.sees (S' := ⟨[(0, .own 0 0 a0.length), (1, vi a1), (2, .fn (.func 21) [] [.ptr 1 0 0, .ptr 2 0 0, .ptr 3 0 0]), (6, vi 20), (7, vi 0), (8, vi 20)], [some (.row 1 (List.map vi a0)), some (.row 1 [vi a2]), some (.row 1 [eS 1 vi a3]), some (.row 1 [vi a4])]⟩) sy ?_
  refine TriE.loopN h (fun (t : Int × Nat × (List Int)) => match t with | (v2, v3, v4) => St.mk [(0, .own 0 0 v4.length), (1, vi a1), (2, .fn (.func 21) [] [.ptr 1 0 0, .ptr 2 0 0, .ptr 3 0 0]), (6, vi 20), (7, vi v2), (8, vi v3)] [some (.row 1 (List.map vi v4)), some (.row 1 [vi a2]), some (.row 1 [eS 1 vi a3]), some (.row 1 [vi a4])]) rfl ?_
  clear h
  rintro back ⟨v2, v3, v4⟩ h
  dsimp only [slices_stableCmpFunc_int_L1] at h
  refine TriE.seq ?_
  refine sr [(0, .own 0 0 v4.length), (1, vi a1), (2, .fn (.func 21) [] [.ptr 1 0 0, .ptr 2 0 0, .ptr 3 0 0]), (6, vi 20), (7, vi v2), (8, vi v3), (13, vb (decide ((v3 : Int) ≤ a1)))] [some (.row 1 (List.map vi v4)), some (.row 1 [vi a2]), some (.row 1 [eS 1 vi a3]), some (.row 1 [vi a4])] ?_
  refine TriE.cond (b := decide ((v3 : Int) ≤ a1)) rfl (fun c1 => ?_) (fun c1 => ?_)
  · have h := cond_t h c1
    refine TriE.skip ?_
    refine TriE.block ?_
    refine sj ?_
    refine rn 4 [(0, .own 0 0 v4.length), (1, vi a1), (2, .fn (.func 21) [] [.ptr 1 0 0, .ptr 2 0 0, .ptr 3 0 0]), (6, vi 20), (8, vi v3), (14, .own 0 0 v4.length), (15, vi v2), (16, vi v3), (17, .fn (.func 21) [] [.ptr 1 0 0, .ptr 2 0 0, .ptr 3 0 0])] [some (.row 1 (List.map vi v4)), some (.row 1 [vi a2]), some (.row 1 [eS 1 vi a3]), some (.row 1 [vi a4])] ?_
    obtain ⟨y5, hy5, h⟩ := bind_some h
    refine RegJ.op (Op1.call (y' := .tup []) (obx := [some (.row 1 (List.map vi v4)), some (.row 1 [vi a2]), some (.row 1 [eS 1 vi a3]), some (.row 1 [vi a4])]) (oby := [some (.row 1 (List.map vi y5)), some (.row 1 [vi a2]), some (.row 1 [eS 1 vi a3]), some (.row 1 [vi a4])]) (ob2 := [some (.row 1 (List.map vi y5)), some (.row 1 [vi a2]), some (.row 1 [eS 1 vi a3]), some (.row 1 [vi a4])]) _ _ (cy (I0 18 (.call 53 [(.t 14), (.t 15), (.t 16), (.t 17)]))) rfl (slices_insertionSortCmpFunc_int_ok n v4 v2 (v3 : Int) a2 a3 a4 y5 hy5) [0, 1, 2, 3] (by kernel_rfl) (.cons rfl (.cons rfl (.cons rfl (.cons rfl (.cons rfl .nil))))) (by kernel_rfl) (by kernel_rfl) (.same (row_ren vi_frz _ _ _) (.cons rfl (.cons rfl (.cons rfl .nil)))) (by kernel_rfl) (.same (row_ren vi_frz _ _ _) (.cons rfl (.cons rfl (.cons rfl .nil)))) (by kernel_rfl)) ?_
    obtain ⟨c2, h⟩ := chk_some h
    refine RegJ.sees (S' := ⟨[(0, .own 0 0 y5.length), (1, vi a1), (2, .fn (.func 21) [] [.ptr 1 0 0, .ptr 2 0 0, .ptr 3 0 0]), (6, vi 20), (8, vi v3), (14, .own 0 0 y5.length), (15, vi v2), (16, vi v3), (17, .fn (.func 21) [] [.ptr 1 0 0, .ptr 2 0 0, .ptr 3 0 0]), (18, .tup [])], [some (.row 1 (List.map vi y5)), some (.row 1 [vi a2]), some (.row 1 [eS 1 vi a3]), some (.row 1 [vi a4])]⟩) (Sees.cov (Cov.mk2 (rs := [0, 1, 2, 3]) (by decide) rfl rfl (.cons (.inl (by rw [show v4.length = y5.length from of_decide_eq_true c2]; rfl)) (.cons (.inl rfl) (.cons (.inl rfl) (.cons (.inl rfl) (.cons (.inl rfl) (.cons (.inl (by rw [show v4.length = y5.length from of_decide_eq_true c2]; rfl)) (.cons (.inl rfl) (.cons (.inl rfl) (.cons (.inl rfl) (.cons (.inl rfl) .nil)))))))))) (obRen_row vi_frz rfl (.cons rfl (.cons rfl (.cons rfl .nil)))))) ?_
    refine jp [(0, .own 0 0 y5.length), (1, vi a1), (2, .fn (.func 21) [] [.ptr 1 0 0, .ptr 2 0 0, .ptr 3 0 0]), (6, vi 20), (8, vi v3)] ?_
    refine sr [(0, .own 0 0 y5.length), (1, vi a1), (2, .fn (.func 21) [] [.ptr 1 0 0, .ptr 2 0 0, .ptr 3 0 0]), (6, vi 20), (8, vi v3), (7, vi v3)] [some (.row 1 (List.map vi y5)), some (.row 1 [vi a2]), some (.row 1 [eS 1 vi a3]), some (.row 1 [vi a4])] ?_
    refine TriE.regJ ?_
    refine rn 2 [(0, .own 0 0 y5.length), (1, vi a1), (2, .fn (.func 21) [] [.ptr 1 0 0, .ptr 2 0 0, .ptr 3 0 0]), (6, vi 20), (7, vi v3), (20, vi v3), (21, vi 20)] [some (.row 1 (List.map vi y5)), some (.row 1 [vi a2]), some (.row 1 [eS 1 vi a3]), some (.row 1 [vi a4])] ?_
    obtain ⟨c3, h⟩ := chk_some h
    refine jv (vi ((v3 + 20 : Nat) : Int)) (cy (I0 22 (.bin .add false (.t 20) (.t 21)))) (r_addn (i := v3) (j := 20) rfl rfl c3) rfl ?_
    refine jq 1 [(0, .own 0 0 y5.length), (1, vi a1), (2, .fn (.func 21) [] [.ptr 1 0 0, .ptr 2 0 0, .ptr 3 0 0]), (6, vi 20), (7, vi v3), (8, vi ((v3 + 20 : Nat) : Int))] [some (.row 1 (List.map vi y5)), some (.row 1 [vi a2]), some (.row 1 [eS 1 vi a3]), some (.row 1 [vi a4])] ?_
    exact Vs.intro sy ⟨((v3 : Int), v3 + 20, y5), rfl, h⟩
  have h := cond_f h c1
  refine TriE.exit ?_
  exact Vs.intro sy ⟨(v2, v4), rfl, h⟩
theorem slices_SortStableFunc_int_ok (n : Nat) (a0 : List Int) (a1 : Int) (a2 : List Int) (a3 : Int) (r : (List Int)) (h : slices_SortStableFunc_int n a0 a1 a2 a3 = some r) : FnL Try.prog 20 [.own 0 0 a0.length, .fn (.func 21) [] [.ptr 1 0 0, .ptr 2 0 0, .ptr 3 0 0]] [some (.row 1 (List.map vi a0)), some (.row 1 [vi a1]), some (.row 1 [eS 1 vi a2]), some (.row 1 [vi a3])] (.tup []) [some (.row 1 (List.map vi r)), some (.row 1 [vi a1]), some (.row 1 [eS 1 vi a2]), some (.row 1 [vi a3])] := by
  dsimp only [slices_SortStableFunc_int] at h
  refine FnL.ofS (ts := []) Try.call20 Try.func20 rfl rfl (Nat.le_of_ble_eq_true rfl) (Nat.le_of_ble_eq_true rfl) (hall_of (.cons rfl (.cons rfl (.cons rfl (.cons rfl .nil))))) ?_
  refine TriE.regJ ?_
  refine rn 4 [(4, .own 0 0 a0.length), (6, vi (a0.length : Int)), (7, .fn (.func 21) [] [.ptr 1 0 0, .ptr 2 0 0, .ptr 3 0 0])] [some (.row 1 (List.map vi a0)), some (.row 1 [vi a1]), some (.row 1 [eS 1 vi a2]), some (.row 1 [vi a3])] ?_
  obtain ⟨y1, hy1, h⟩ := bind_some h
  refine RegJ.op (Op1.call (y' := .tup []) (obx := [some (.row 1 (List.map vi a0)), some (.row 1 [vi a1]), some (.row 1 [eS 1 vi a2]), some (.row 1 [vi a3])]) (oby := [some (.row 1 (List.map vi y1)), some (.row 1 [vi a1]), some (.row 1 [eS 1 vi a2]), some (.row 1 [vi a3])]) (ob2 := [some (.row 1 (List.map vi y1)), some (.row 1 [vi a1]), some (.row 1 [eS 1 vi a2]), some (.row 1 [vi a3])]) _ _ (cy (I0 8 (.call 38 [(.t 4), (.t 6), (.t 7)]))) rfl (slices_stableCmpFunc_int_ok n a0 (a0.length : Int) a1 a2 a3 y1 hy1) [0, 1, 2, 3] (by kernel_rfl) (.cons rfl (.cons rfl (.cons rfl (.cons rfl .nil)))) (by kernel_rfl) (by kernel_rfl) (.same (row_ren vi_frz _ _ _) (.cons rfl (.cons rfl (.cons rfl .nil)))) (by kernel_rfl) (.same (row_ren vi_frz _ _ _) (.cons rfl (.cons rfl (.cons rfl .nil)))) (by kernel_rfl)) ?_
  obtain ⟨c1, h⟩ := chk_some h
  refine RegJ.sees (S' := ⟨[(4, .own 0 0 y1.length), (6, vi (a0.length : Int)), (7, .fn (.func 21) [] [.ptr 1 0 0, .ptr 2 0 0, .ptr 3 0 0]), (8, .tup [])], [some (.row 1 (List.map vi y1)), some (.row 1 [vi a1]), some (.row 1 [eS 1 vi a2]), some (.row 1 [vi a3])]⟩) (Sees.cov (Cov.mk2 (rs := [0, 1, 2, 3]) (by decide) rfl rfl (.cons (.inl (by rw [show a0.length = y1.length from of_decide_eq_true c1]; rfl)) (.cons (.inl rfl) (.cons (.inl rfl) (.cons (.inl rfl) .nil)))) (obRen_row vi_frz rfl (.cons rfl (.cons rfl (.cons rfl .nil)))))) ?_
  refine jp [] ?_
  have h := Option.some.inj h
  subst h
  exact DoneS.normal (S' := ⟨[], [some (.row 1 (List.map vi y1)), some (.row 1 [vi a1]), some (.row 1 [eS 1 vi a2]), some (.row 1 [vi a3])]⟩) Sees.refl rfl rfl
theorem restore_Split_ok (n : Nat) (a0 : Int) (a1 : List Int) (r : Int × (List Int)) (h : restore_Split n a0 a1 = some r) : FnL Try.prog 5 [vi a0, eS 1 vi a1] [] (.tup [eS 1 vi r.2, vi r.1]) [] := by
  dsimp only [restore_Split] at h
  refine FnL.ofS (ts := [4, 5]) Try.call5 Try.func5 rfl rfl (Nat.le_of_ble_eq_true rfl) (Nat.le_of_ble_eq_true rfl) (fun j h => absurd h (Nat.not_lt_zero j)) ?_
  refine sr [(2, .ptr 0 0 0), (3, .ptr 1 0 0)] [some (.row 1 [vi a0]), some (.row 1 [eS 1 vi a1])] ?_
  refine TriE.seq ?_
  refine TriE.block ?_
  refine sj ?_
  refine rn 1 [(2, .ptr 0 0 0), (3, .ptr 1 0 0), (17, vi a0)] [some (.row 1 [vi a0]), some (.row 1 [eS 1 vi a1])] ?_
  obtain ⟨y1, hy1, h⟩ := bind_some h
  refine RegJ.op (Op1.call (y' := vb ((decide (0 ≤ a0)) && (decide (a0 ≤ 1000000000000)))) (obx := []) (oby := []) (ob2 := [some (.row 1 [vi a0]), some (.row 1 [eS 1 vi a1])]) _ _ (cy (I0 18 (.call 16 [(.t 17), (.c (.p (.int .i64 0))), (.c (.p (.int .i64 1000000000000)))]))) rfl (restore_within_ok n a0 0 1000000000000 y1 hy1) [] (by kernel_rfl) (.cons rfl (.cons rfl (.cons rfl (.cons rfl .nil)))) (by kernel_rfl) (by kernel_rfl) ObsRen.nil (by kernel_rfl) ObsRen.nil (by kernel_rfl)) ?_
  refine jq 2 [(2, .ptr 0 0 0), (3, .ptr 1 0 0), (16, vb (!((decide (0 ≤ a0)) && (decide (a0 ≤ 1000000000000)))))] [some (.row 1 [vi a0]), some (.row 1 [eS 1 vi a1])] ?_
  refine TriE.cond (b := !((decide (0 ≤ a0)) && (decide (a0 ≤ 1000000000000)))) rfl (fun c1 => ?_) (fun c1 => ?_)
  · have h := cond_t h c1
    refine sr [(4, .emp), (5, vi 2)] [some (.row 1 [vi a0]), some (.row 1 [eS 1 vi a1])] ?_
    refine TriE.ret ?_
    have h := Option.some.inj h
    subst h
    exact DoneS.ret (S' := ⟨[(4, eS 1 vi ([] : List Int)), (5, vi 2)], []⟩) (Sees.trans (Sees.vco (fr' := [(4, eS 1 vi ([] : List Int)), (5, vi 2)]) (.cons .sl (.cons .same .nil))) (sc [] (by decide) (by kernel_rfl) ObRen.nil rfl rfl)) rfl rfl
  have h := cond_f h c1
  refine sj ?_
  refine rn 1 [(2, .ptr 0 0 0), (3, .ptr 1 0 0), (21, eS 1 vi a1)] [some (.row 1 [vi a0]), some (.row 1 [eS 1 vi a1])] ?_
  refine jv (vi (a1.length : Int)) (cy (I0 22 (.len 0 (.t 21)))) (ok_len_m rfl) rfl ?_
  refine jv (vb (decide (a1.length = 0))) (cy (I0 23 (.bin .eql false (.t 22) (.c (.p (.int .i64 0)))))) (n_eql (i := a1.length) (j := 0) rfl rfl) rfl ?_
  refine jq 1 [(2, .ptr 0 0 0), (3, .ptr 1 0 0), (20, vb (decide (a1.length = 0)))] [some (.row 1 [vi a0]), some (.row 1 [eS 1 vi a1])] ?_
  refine TriE.cond (b := decide (a1.length = 0)) rfl (fun c2 => ?_) (fun c2 => ?_)
  · have h := cond_t h c2
    refine sr [(4, .emp), (5, vi 10)] [some (.row 1 [vi a0]), some (.row 1 [eS 1 vi a1])] ?_
    refine TriE.ret ?_
    have h := Option.some.inj h
    subst h
    exact DoneS.ret (S' := ⟨[(4, eS 1 vi ([] : List Int)), (5, vi 10)], []⟩) (Sees.trans (Sees.vco (fr' := [(4, eS 1 vi ([] : List Int)), (5, vi 10)]) (.cons .sl (.cons .same .nil))) (sc [] (by decide) (by kernel_rfl) ObRen.nil rfl rfl)) rfl rfl
  have h := cond_f h c2
  refine sj ?_
  refine rn 1 [(2, .ptr 0 0 0), (3, .ptr 1 0 0), (25, eS 1 vi a1)] [some (.row 1 [vi a0]), some (.row 1 [eS 1 vi a1])] ?_
  refine jv (vi (a1.length : Int)) (cy (I0 26 (.len 0 (.t 25)))) (ok_len_m rfl) rfl ?_
  refine jv (vb (decide (60 < a1.length))) (cy (I0 27 (.bin .gtr false (.t 26) (.c (.p (.int .i64 60)))))) (n_gtr (i := a1.length) (j := 60) rfl rfl) rfl ?_
  refine jq 1 [(2, .ptr 0 0 0), (3, .ptr 1 0 0), (24, vb (decide (60 < a1.length)))] [some (.row 1 [vi a0]), some (.row 1 [eS 1 vi a1])] ?_
  refine TriE.cond (b := decide (60 < a1.length)) rfl (fun c3 => ?_) (fun c3 => ?_)
  · have h := cond_t h c3
    refine sr [(4, .emp), (5, vi 8)] [some (.row 1 [vi a0]), some (.row 1 [eS 1 vi a1])] ?_
    refine TriE.ret ?_
    have h := Option.some.inj h
    subst h
    exact DoneS.ret (S' := ⟨[(4, eS 1 vi ([] : List Int)), (5, vi 8)], []⟩) (Sees.trans (Sees.vco (fr' := [(4, eS 1 vi ([] : List Int)), (5, vi 8)]) (.cons .sl (.cons .same .nil))) (sc [] (by decide) (by kernel_rfl) ObRen.nil rfl rfl)) rfl rfl
  have h := cond_f h c3
  refine sj ?_
  refine rn 1 [(2, .ptr 0 0 0), (3, .ptr 1 0 0), (29, eS 1 vi a1)] [some (.row 1 [vi a0]), some (.row 1 [eS 1 vi a1])] ?_
  obtain ⟨y2, hy2, h⟩ := bind_some h
  refine RegJ.op (Op1.call (y' := vb y2) (obx := []) (oby := []) (ob2 := [some (.row 1 [vi a0]), some (.row 1 [eS 1 vi a1])]) _ _ (cy (I0 30 (.call 17 [(.t 29), (.c (.fn (.func 18) [] []))]))) rfl (slices_ContainsFunc_int_ok n a1 y2 hy2) [] (by kernel_rfl) (.cons rfl (.cons rfl (.cons rfl .nil))) (by kernel_rfl) (by kernel_rfl) ObsRen.nil (by kernel_rfl) ObsRen.nil (by kernel_rfl)) ?_
  refine jq 1 [(2, .ptr 0 0 0), (3, .ptr 1 0 0), (28, vb y2)] [some (.row 1 [vi a0]), some (.row 1 [eS 1 vi a1])] ?_
  refine TriE.cond (b := y2) rfl (fun c4 => ?_) (fun c4 => ?_)
  · have h := cond_t h c4
    refine sr [(4, .emp), (5, vi 2)] [some (.row 1 [vi a0]), some (.row 1 [eS 1 vi a1])] ?_
    refine TriE.ret ?_
    have h := Option.some.inj h
    subst h
    exact DoneS.ret (S' := ⟨[(4, eS 1 vi ([] : List Int)), (5, vi 2)], []⟩) (Sees.trans (Sees.vco (fr' := [(4, eS 1 vi ([] : List Int)), (5, vi 2)]) (.cons .sl (.cons .same .nil))) (sc [] (by decide) (by kernel_rfl) ObRen.nil rfl rfl)) rfl rfl
  have h := cond_f h c4
  refine sj ?_
  refine rn 1 [(2, .ptr 0 0 0), (3, .ptr 1 0 0), (32, eS 1 vi a1)] [some (.row 1 [vi a0]), some (.row 1 [eS 1 vi a1])] ?_
  obtain ⟨y3, hy3, h⟩ := bind_some h
  refine RegJ.op (Op1.call (y' := vi y3) (obx := []) (oby := []) (ob2 := [some (.row 1 [vi a0]), some (.row 1 [eS 1 vi a1])]) _ _ (cy (I0 33 (.call 19 [(.t 32)]))) rfl (slices_Max_int_ok n a1 y3 hy3) [] (by kernel_rfl) (.cons rfl (.cons rfl .nil)) (by kernel_rfl) (by kernel_rfl) ObsRen.nil (by kernel_rfl) ObsRen.nil (by kernel_rfl)) ?_
  refine jq 2 [(2, .ptr 0 0 0), (3, .ptr 1 0 0), (31, vb (y3 == (0 : Int)))] [some (.row 1 [vi a0]), some (.row 1 [eS 1 vi a1])] ?_
  refine TriE.cond (b := (y3 == (0 : Int))) rfl (fun c5 => ?_) (fun c5 => ?_)
  · have h := cond_t h c5
    refine sr [(4, .emp), (5, vi 11)] [some (.row 1 [vi a0]), some (.row 1 [eS 1 vi a1])] ?_
    refine TriE.ret ?_
    have h := Option.some.inj h
    subst h
    exact DoneS.ret (S' := ⟨[(4, eS 1 vi ([] : List Int)), (5, vi 11)], []⟩) (Sees.trans (Sees.vco (fr' := [(4, eS 1 vi ([] : List Int)), (5, vi 11)]) (.cons .sl (.cons .same .nil))) (sc [] (by decide) (by kernel_rfl) ObRen.nil rfl rfl)) rfl rfl
  have h := cond_f h c5
  refine TriE.skip ?_
  refine sr [(2, .ptr 0 0 0), (3, .ptr 1 0 0), (6, .ptr 2 0 0)] [some (.row 1 [vi a0]), some (.row 1 [eS 1 vi a1]), some (.row 1 [vi 0])] ?_
  refine TriE.seqK h (fun (v6 : Int) => St.mk [(2, .ptr 0 0 0), (3, .ptr 1 0 0), (6, .ptr 2 0 0)] [some (.row 1 [vi a0]), some (.row 1 [eS 1 vi a1]), some (.row 1 [vi v6])]) ?_ ?_
  · rintro v6 h
    refine TriE.seq ?_
    refine TriE.sees (Sees.less (fr' := [(2, .ptr 0 0 0), (3, .ptr 1 0 0), (6, .ptr 2 0 0)]) (.cons rfl (.cons rfl (.cons rfl .nil)))) ?_
    refine TriE.draw (by kernel_rfl) ?_
    refine RegD.run 1 [(45, eS 1 vi a1), (2, .ptr 0 0 0), (3, .ptr 1 0 0), (6, .ptr 2 0 0)] [some (.row 1 [vi a0]), some (.row 1 [eS 1 vi a1]), some (.row 1 [vi v6]), none] (by kernel_rfl) ?_
    refine dv (vi (a1.length : Int)) (cy (I0 46 (.len 0 (.t 45)))) (ok_len_m rfl) rfl ?_
    obtain ⟨c9, h⟩ := chk_some h
    refine de (.own 5 0 ((List.replicate a1.length (0 : Int)).length)) [some (.row 1 [vi a0]), some (.row 1 [eS 1 vi a1]), some (.row 1 [vi v6]), none, none, some (.row 1 (List.map vi (List.replicate a1.length (0 : Int))))] (cy (I0 47 (.mkslice 1 8 (.p (.int .i64 0)) (.t 46) (.t 46)))) (ok_mkslice_n (e := vi) (v0 := (0 : Int)) (j := a1.length) rfl rfl rfl rfl rfl rfl c9) rfl rfl rfl ?_
    refine RegD.run 1 [(48, eS 1 vi a1), (47, .own 5 0 ((List.replicate a1.length (0 : Int)).length)), (46, vi (a1.length : Int)), (45, eS 1 vi a1), (2, .ptr 0 0 0), (3, .ptr 1 0 0), (6, .ptr 2 0 0)] [some (.row 1 [vi a0]), some (.row 1 [eS 1 vi a1]), some (.row 1 [vi v6]), none, none, some (.row 1 (List.map vi (List.replicate a1.length (0 : Int)))), none] (by kernel_rfl) ?_
    refine dv (vi (a1.length : Int)) (cy (I0 49 (.len 0 (.t 48)))) (ok_len_m rfl) rfl ?_
    refine de (.own 8 0 ((List.replicate a1.length (0 : Int)).length)) [some (.row 1 [vi a0]), some (.row 1 [eS 1 vi a1]), some (.row 1 [vi v6]), none, none, some (.row 1 (List.map vi (List.replicate a1.length (0 : Int)))), none, none, some (.row 1 (List.map vi (List.replicate a1.length (0 : Int))))] (cy (I0 50 (.mkslice 1 8 (.p (.int .i64 0)) (.t 49) (.t 49)))) (ok_mkslice_n (e := vi) (v0 := (0 : Int)) (j := a1.length) rfl rfl rfl rfl rfl rfl c9) rfl rfl rfl ?_
    refine RegD.run 4 [(11, vi a0), (10, .own 8 0 ((List.replicate a1.length (0 : Int)).length)), (9, .own 5 0 ((List.replicate a1.length (0 : Int)).length)), (51, vi a0), (50, .own 8 0 ((List.replicate a1.length (0 : Int)).length)), (49, vi (a1.length : Int)), (48, eS 1 vi a1), (47, .own 5 0 ((List.replicate a1.length (0 : Int)).length)), (46, vi (a1.length : Int)), (45, eS 1 vi a1), (2, .ptr 0 0 0), (3, .ptr 1 0 0), (6, .ptr 2 0 0)] [some (.row 1 [vi a0]), some (.row 1 [eS 1 vi a1]), some (.row 1 [vi v6]), none, none, some (.row 1 (List.map vi (List.replicate a1.length (0 : Int)))), none, none, some (.row 1 (List.map vi (List.replicate a1.length (0 : Int)))), none, none, none, none] (by kernel_rfl) ?_
    refine RegD.done rfl (by kernel_rfl) (S' := ⟨[(2, .ptr 0 0 0), (3, .ptr 1 0 0), (6, .ptr 2 0 0), (9, .own 3 0 ((List.replicate a1.length (0 : Int)).length)), (10, .own 4 0 ((List.replicate a1.length (0 : Int)).length)), (11, vi a0)], [some (.row 1 [vi a0]), some (.row 1 [eS 1 vi a1]), some (.row 1 [vi v6]), some (.row 1 (List.map vi (List.replicate a1.length (0 : Int)))), some (.row 1 (List.map vi (List.replicate a1.length (0 : Int))))]⟩) (sc [0, 1, 2, 5, 8] (by decide) (by kernel_rfl) (.cons rfl (.cons rfl (.cons rfl (obRen_row vi_frz rfl (obRen_row vi_frz rfl .nil))))) rfl rfl) ?_
    refine TriE.seqK h (fun (t : Int × (List Int) × (List Int)) => match t with | (v11, v12, v13) => St.mk [(2, .ptr 0 0 0), (3, .ptr 1 0 0), (6, .ptr 2 0 0), (9, .own 3 0 v13.length), (10, .own 4 0 v12.length), (11, vi v11)] [some (.row 1 [vi a0]), some (.row 1 [eS 1 vi a1]), some (.row 1 [vi v6]), some (.row 1 (List.map vi v13)), some (.row 1 (List.map vi v12))]) ?_ ?_
    · rintro ⟨v11, v12, v13⟩ h
      refine sj ?_
      refine rn 2 [(9, .own 3 0 v13.length), (10, .own 4 0 v12.length), (11, vi v11), (78, .own 4 0 v12.length), (79, .fn (.func 21) [] [.ptr 0 0 0, .ptr 1 0 0, .ptr 2 0 0])] [some (.row 1 [vi a0]), some (.row 1 [eS 1 vi a1]), some (.row 1 [vi v6]), some (.row 1 (List.map vi v13)), some (.row 1 (List.map vi v12))] ?_
      obtain ⟨y14, hy14, h⟩ := bind_some h
      refine RegJ.op (Op1.call (y' := .tup []) (obx := [some (.row 1 (List.map vi v12)), some (.row 1 [vi a0]), some (.row 1 [eS 1 vi a1]), some (.row 1 [vi v6])]) (oby := [some (.row 1 (List.map vi y14)), some (.row 1 [vi a0]), some (.row 1 [eS 1 vi a1]), some (.row 1 [vi v6])]) (ob2 := [some (.row 1 [vi a0]), some (.row 1 [eS 1 vi a1]), some (.row 1 [vi v6]), some (.row 1 (List.map vi v13)), some (.row 1 (List.map vi y14))]) _ _ (cy (I0 80 (.call 20 [(.t 78), (.t 79)]))) rfl (slices_SortStableFunc_int_ok n v12 a0 a1 v6 y14 hy14) [4, 0, 1, 2] (by kernel_rfl) (.cons rfl (.cons rfl (.cons rfl .nil))) (by kernel_rfl) (by kernel_rfl) (.same (row_ren vi_frz _ _ _) (.cons rfl (.cons rfl (.cons rfl .nil)))) (by kernel_rfl) (.same (row_ren vi_frz _ _ _) (.cons rfl (.cons rfl (.cons rfl .nil)))) (by kernel_rfl)) ?_
      obtain ⟨c18, h⟩ := chk_some h
      refine RegJ.sees (S' := ⟨[(9, .own 3 0 v13.length), (10, .own 4 0 y14.length), (11, vi v11), (78, .own 4 0 y14.length), (79, .fn (.func 21) [] [.ptr 0 0 0, .ptr 1 0 0, .ptr 2 0 0]), (80, .tup [])], [some (.row 1 [vi a0]), some (.row 1 [eS 1 vi a1]), some (.row 1 [vi v6]), some (.row 1 (List.map vi v13)), some (.row 1 (List.map vi y14))]⟩) (Sees.cov (Cov.mk2 (rs := [0, 1, 2, 3, 4]) (by decide) rfl rfl (.cons (.inl rfl) (.cons (.inl (by rw [show v12.length = y14.length from of_decide_eq_true c18]; rfl)) (.cons (.inl rfl) (.cons (.inl (by rw [show v12.length = y14.length from of_decide_eq_true c18]; rfl)) (.cons (.inl rfl) (.cons (.inl rfl) .nil)))))) (.cons rfl (.cons rfl (.cons rfl (obRen_row vi_frz rfl (obRen_row vi_frz rfl .nil))))))) ?_
      refine jp [(9, .own 3 0 v13.length), (10, .own 4 0 y14.length), (11, vi v11)] ?_
      refine TriE.seqK h (fun (v17 : (List Int)) => St.mk [(9, .own 0 0 v17.length)] [some (.row 1 (List.map vi v17))]) ?_ ?_
      · rintro v17 h
        refine sr [(4, .own 0 0 v17.length), (5, vi 0)] [some (.row 1 (List.map vi v17))] ?_
        refine TriE.ret ?_
        have h := Option.some.inj h
        subst h
        exact DoneS.ret (S' := ⟨[(4, eS 1 vi v17), (5, vi 0)], []⟩) (Sees.trans (Sees.freeze 0 (fr' := [(4, eS 1 vi v17), (5, vi 0)]) (ob' := [none]) rfl (frz_row vi_frzE _) (.cons (frz_full rfl) (.cons (.refl _) .nil)) rfl) (sc [] (by decide) (by kernel_rfl) ObRen.nil rfl rfl)) rfl rfl
      intro k3 h
      refine sj ?_
      refine rn 2 [(9, .own 3 0 v13.length), (81, .own 4 0 y14.length), (82, vi v11)] [some (.row 1 [vi a0]), some (.row 1 [eS 1 vi a1]), some (.row 1 [vi v6]), some (.row 1 (List.map vi v13)), some (.row 1 (List.map vi y14))] ?_
      obtain ⟨c19, h⟩ := chk_some h
      refine jv (.own 4 0 v11.toNat) (cy (I0 83 (.slc 1 (.t 81) none (some (.t 82)) none))) (ok_slco_hi (j := v11.toNat) rfl rfl rfl (inC_to c19) (inC_le c19)) rfl ?_
      refine jq 2 [(9, .own 3 0 v13.length), (83, .own 4 0 v11.toNat), (84, vi ((v11.toNat : Nat) : Int)), (85, vi 0)] [some (.row 1 [vi a0]), some (.row 1 [eS 1 vi a1]), some (.row 1 [vi v6]), some (.row 1 (List.map vi v13)), some (.row 1 (List.map vi y14))] ?_
      refine TriE.block ?_
      refine TriE.sees (S' := ⟨[(9, .own 0 0 v13.length), (83, .own 1 0 v11.toNat), (84, vi ((v11.toNat : Nat) : Int)), (85, vi 0)], [some (.row 1 (List.map vi v13)), some (.row 1 (List.map vi y14))]⟩) (sc [3, 4] (by decide) (by kernel_rfl) (obRen_row vi_frz rfl (obRen_row vi_frz rfl .nil)) rfl rfl) ?_
      refine TriE.loopN h (fun (t : Nat × (List Int)) => match t with | (v15, v16) => St.mk [(9, .own 0 0 v16.length), (83, .own 1 0 v11.toNat), (84, vi ((v11.toNat : Nat) : Int)), (85, vi v15)] [some (.row 1 (List.map vi v16)), some (.row 1 (List.map vi y14))]) rfl ?_
      clear h
      rintro back ⟨v15, v16⟩ h
      dsimp only [restore_Split_L3] at h
      refine sj ?_
      refine jv (vb (decide (v15 < v11.toNat))) (cy (I0 86 (.bin .lss false (.t 85) (.t 84)))) (n_lss (i := v15) (j := v11.toNat) rfl rfl) rfl ?_
      refine jp [(9, .own 0 0 v16.length), (83, .own 1 0 v11.toNat), (84, vi ((v11.toNat : Nat) : Int)), (85, vi v15), (86, vb (decide (v15 < v11.toNat)))] ?_
      refine TriE.seq ?_
      refine TriE.cond (b := decide (v15 < v11.toNat)) rfl (fun c20 => ?_) (fun c20 => ?_)
      · have h := cond_t h c20
        refine TriE.skip ?_
        refine TriE.seq ?_
        refine TriE.block ?_
        refine sj ?_
        refine jv (.ptr 1 v15 0) (cy (I0 87 (.iaddr 1 (.t 83) (.t 85)))) (ok_iaddr_o0 (j := v15) rfl rfl rfl rfl c20) rfl ?_
        obtain ⟨c21, h⟩ := chk_some h
        refine jv (vi (ix y14 v15)) (cy (I0 88 (.load false 1 (.t 87)))) (ok_load_pm (l := y14) (e := vi) (v := vi (ix y14 v15)) rfl rfl c21 rfl) rfl ?_
        refine jq 1 [(9, .own 0 0 v16.length), (83, .own 1 0 v11.toNat), (84, vi ((v11.toNat : Nat) : Int)), (85, vi v15), (15, vi (ix y14 v15))] [some (.row 1 (List.map vi v16)), some (.row 1 (List.map vi y14))] ?_
        refine TriE.regJ ?_
        refine rn 2 [(9, .own 0 0 v16.length), (83, .own 1 0 v11.toNat), (84, vi ((v11.toNat : Nat) : Int)), (85, vi v15), (89, .own 0 0 v16.length), (90, vi (ix y14 v15))] [some (.row 1 (List.map vi v16)), some (.row 1 (List.map vi y14))] ?_
        obtain ⟨c22, h⟩ := chk_some h
        refine jv (.ptr 0 ((ix y14 v15).toNat) 0) (cy (I0 91 (.iaddr 1 (.t 89) (.t 90)))) (ok_iaddr_o0 (j := (ix y14 v15).toNat) rfl rfl rfl (inB_to c22) (inB_lt c22)) rfl ?_
        obtain ⟨c23, h⟩ := chk_some h
        refine jv (vi (ix v16 ((ix y14 v15).toNat))) (cy (I0 92 (.load false 1 (.t 91)))) (ok_load_pm (l := v16) (e := vi) (v := vi (ix v16 ((ix y14 v15).toNat))) rfl rfl c23 rfl) rfl ?_
        obtain ⟨c24, h⟩ := chk_some h
        refine jv (vi ((ix v16 ((ix y14 v15).toNat)) + 1)) (cy (I0 93 (.bin .add false (.t 92) (.c (.p (.int .i64 1)))))) (r_add rfl rfl c24) rfl ?_
        refine jv (.ptr 0 ((ix y14 v15).toNat) 0) (cy (I0 94 (.iaddr 1 (.t 89) (.t 90)))) (ok_iaddr_o0 (j := (ix y14 v15).toNat) rfl rfl rfl (inB_to c22) (inB_lt c22)) rfl ?_
        refine je (.undef) [some (.row 1 (List.map vi (List.set v16 ((ix y14 v15).toNat) ((ix v16 ((ix y14 v15).toNat)) + 1)))), some (.row 1 (List.map vi y14))] (cy (IN (.store 1 (.t 94) (.t 93)))) (ok_store_m (l := v16) (e := vi) (x' := (ix v16 ((ix y14 v15).toNat)) + 1) (u := vi ((ix v16 ((ix y14 v15).toNat)) + 1)) rfl rfl rfl c23 rfl rfl) rfl rfl rfl ?_
        refine jp [(9, .own 0 0 v16.length), (83, .own 1 0 v11.toNat), (84, vi ((v11.toNat : Nat) : Int)), (85, vi v15)] ?_
        refine TriE.regJ ?_
        obtain ⟨c25, h⟩ := chk_some h
        refine jv (vi ((v15 + 1 : Nat) : Int)) (cy (I0 95 (.bin .add false (.t 85) (.c (.p (.int .i64 1)))))) (r_addn (i := v15) (j := 1) rfl rfl c25) rfl ?_
        refine jq 1 [(9, .own 0 0 v16.length), (83, .own 1 0 v11.toNat), (84, vi ((v11.toNat : Nat) : Int)), (85, vi ((v15 + 1 : Nat) : Int))] [some (.row 1 (List.map vi (List.set v16 ((ix y14 v15).toNat) ((ix v16 ((ix y14 v15).toNat)) + 1)))), some (.row 1 (List.map vi y14))] ?_
        exact Vs.intro (Sees.less (.cons (by simp only [List.length_set]; rfl) (.cons rfl (.cons rfl (.cons rfl .nil))))) ⟨(v15 + 1, (List.set v16 ((ix y14 v15).toNat) ((ix v16 ((ix y14 v15).toNat)) + 1))), rfl, h⟩
      have h := cond_f h c20
      refine TriE.exit ?_
      exact Vs.intro (sc [0] (by decide) (by kernel_rfl) (obRen_row vi_frz rfl .nil) rfl rfl) ⟨v16, rfl, h⟩
    intro k2 h
    refine sj ?_
    refine rn 1 [(2, .ptr 0 0 0), (3, .ptr 1 0 0), (6, .ptr 2 0 0), (9, .own 3 0 ((List.replicate a1.length (0 : Int)).length)), (10, .own 4 0 ((List.replicate a1.length (0 : Int)).length)), (11, vi a0), (52, eS 1 vi a1)] [some (.row 1 [vi a0]), some (.row 1 [eS 1 vi a1]), some (.row 1 [vi v6]), some (.row 1 (List.map vi (List.replicate a1.length (0 : Int)))), some (.row 1 (List.map vi (List.replicate a1.length (0 : Int))))] ?_
    refine jv (vi (a1.length : Int)) (cy (I0 53 (.len 0 (.t 52)))) (ok_len_m rfl) rfl ?_
    refine jq 1 [(2, .ptr 0 0 0), (3, .ptr 1 0 0), (6, .ptr 2 0 0), (9, .own 3 0 ((List.replicate a1.length (0 : Int)).length)), (10, .own 4 0 ((List.replicate a1.length (0 : Int)).length)), (11, vi a0), (52, eS 1 vi a1), (53, vi (a1.length : Int)), (54, vi 0)] [some (.row 1 [vi a0]), some (.row 1 [eS 1 vi a1]), some (.row 1 [vi v6]), some (.row 1 (List.map vi (List.replicate a1.length (0 : Int)))), some (.row 1 (List.map vi (List.replicate a1.length (0 : Int))))] ?_
    refine TriE.block ?_
    refine TriE.sees (S' := ⟨[(2, .ptr 0 0 0), (3, .ptr 1 0 0), (6, .ptr 2 0 0), (9, .own 3 0 (List.replicate a1.length (0 : Int)).length), (10, .own 4 0 (List.replicate a1.length (0 : Int)).length), (11, vi a0), (52, eS 1 vi a1), (53, vi (a1.length : Int)), (54, vi 0)], [some (.row 1 [vi a0]), some (.row 1 [eS 1 vi a1]), some (.row 1 [vi v6]), some (.row 1 (List.map vi (List.replicate a1.length (0 : Int)))), some (.row 1 (List.map vi (List.replicate a1.length (0 : Int))))]⟩) sy ?_
    refine TriE.loopN h (fun (t : Int × Nat × (List Int) × (List Int)) => match t with | (v7, v8, v9, v10) => St.mk [(2, .ptr 0 0 0), (3, .ptr 1 0 0), (6, .ptr 2 0 0), (9, .own 3 0 v10.length), (10, .own 4 0 v9.length), (11, vi v7), (52, eS 1 vi a1), (53, vi (a1.length : Int)), (54, vi v8)] [some (.row 1 [vi a0]), some (.row 1 [eS 1 vi a1]), some (.row 1 [vi v6]), some (.row 1 (List.map vi v10)), some (.row 1 (List.map vi v9))]) rfl ?_
    clear h
    rintro back ⟨v7, v8, v9, v10⟩ h
    dsimp only [restore_Split_L2] at h
    refine sj ?_
    refine jv (vb (decide (v8 < a1.length))) (cy (I0 55 (.bin .lss false (.t 54) (.t 53)))) (n_lss (i := v8) (j := a1.length) rfl rfl) rfl ?_
    refine jp [(2, .ptr 0 0 0), (3, .ptr 1 0 0), (6, .ptr 2 0 0), (9, .own 3 0 v10.length), (10, .own 4 0 v9.length), (11, vi v7), (52, eS 1 vi a1), (53, vi (a1.length : Int)), (54, vi v8), (55, vb (decide (v8 < a1.length)))] ?_
    refine TriE.seq ?_
    refine TriE.cond (b := decide (v8 < a1.length)) rfl (fun c10 => ?_) (fun c10 => ?_)
    · have h := cond_t h c10
      refine TriE.skip ?_
      refine TriE.seq ?_
      refine TriE.block ?_
      refine sj ?_
      refine rn 1 [(2, .ptr 0 0 0), (3, .ptr 1 0 0), (6, .ptr 2 0 0), (9, .own 3 0 v10.length), (10, .own 4 0 v9.length), (11, vi v7), (52, eS 1 vi a1), (53, vi (a1.length : Int)), (54, vi v8), (56, vi v8)] [some (.row 1 [vi a0]), some (.row 1 [eS 1 vi a1]), some (.row 1 [vi v6]), some (.row 1 (List.map vi v10)), some (.row 1 (List.map vi v9))] ?_
      refine jv (.fptr 1 (List.map vi a1) v8 0) (cy (I0 57 (.iaddr 1 (.t 52) (.t 54)))) (ok_iaddr_m (j := v8) rfl rfl rfl c10) rfl ?_
      refine jv (vi (ix a1 v8)) (cy (I0 58 (.load false 1 (.t 57)))) (ok_load_fm (v := vi (ix a1 v8)) rfl c10 rfl) rfl ?_
      refine jq 2 [(2, .ptr 0 0 0), (3, .ptr 1 0 0), (6, .ptr 2 0 0), (9, .own 3 0 v10.length), (10, .own 4 0 v9.length), (11, vi v7), (52, eS 1 vi a1), (53, vi (a1.length : Int)), (54, vi v8), (12, vi v8), (13, vi (ix a1 v8))] [some (.row 1 [vi a0]), some (.row 1 [eS 1 vi a1]), some (.row 1 [vi v6]), some (.row 1 (List.map vi v10)), some (.row 1 (List.map vi v9))] ?_
      refine sj ?_
      refine rn 6 [(2, .ptr 0 0 0), (3, .ptr 1 0 0), (6, .ptr 2 0 0), (9, .own 3 0 v10.length), (10, .own 4 0 v9.length), (11, vi v7), (52, eS 1 vi a1), (53, vi (a1.length : Int)), (54, vi v8), (12, vi v8), (59, .own 3 0 v10.length), (60, vi v8), (61, .own 4 0 v9.length), (62, vi v8), (63, vi a0), (64, vi (ix a1 v8))] [some (.row 1 [vi a0]), some (.row 1 [eS 1 vi a1]), some (.row 1 [vi v6]), some (.row 1 (List.map vi v10)), some (.row 1 (List.map vi v9))] ?_
      obtain ⟨c11, h⟩ := chk_some h
      refine jv (vi (a0 * (ix a1 v8))) (cy (I0 65 (.bin .mul false (.t 63) (.t 64)))) (r_mul rfl rfl c11) rfl ?_
      refine rn 1 [(2, .ptr 0 0 0), (3, .ptr 1 0 0), (6, .ptr 2 0 0), (9, .own 3 0 v10.length), (10, .own 4 0 v9.length), (11, vi v7), (52, eS 1 vi a1), (53, vi (a1.length : Int)), (54, vi v8), (12, vi v8), (59, .own 3 0 v10.length), (60, vi v8), (61, .own 4 0 v9.length), (62, vi v8), (65, vi (a0 * (ix a1 v8))), (66, vi v6)] [some (.row 1 [vi a0]), some (.row 1 [eS 1 vi a1]), some (.row 1 [vi v6]), some (.row 1 (List.map vi v10)), some (.row 1 (List.map vi v9))] ?_
      obtain ⟨c12, h⟩ := chk_some h
      refine jv (vi (Int.tdiv (a0 * (ix a1 v8)) v6)) (cy (I0 67 (.bin .quo false (.t 65) (.t 66)))) (r_quo rfl rfl c12) rfl ?_
      refine rn 1 [(2, .ptr 0 0 0), (3, .ptr 1 0 0), (6, .ptr 2 0 0), (9, .own 3 0 v10.length), (10, .own 4 0 v9.length), (11, vi v7), (52, eS 1 vi a1), (53, vi (a1.length : Int)), (54, vi v8), (12, vi v8), (59, .own 3 0 v10.length), (60, vi v8), (61, .own 4 0 v9.length), (62, vi v8), (67, vi (Int.tdiv (a0 * (ix a1 v8)) v6)), (68, vi v8)] [some (.row 1 [vi a0]), some (.row 1 [eS 1 vi a1]), some (.row 1 [vi v6]), some (.row 1 (List.map vi v10)), some (.row 1 (List.map vi v9))] ?_
      obtain ⟨c13, h⟩ := chk_some h
      refine jv (.ptr 3 v8 0) (cy (I0 69 (.iaddr 1 (.t 59) (.t 60)))) (ok_iaddr_o0 (j := v8) rfl rfl rfl rfl c13) rfl ?_
      refine je (.undef) [some (.row 1 [vi a0]), some (.row 1 [eS 1 vi a1]), some (.row 1 [vi v6]), some (.row 1 (List.map vi (List.set v10 v8 (Int.tdiv (a0 * (ix a1 v8)) v6)))), some (.row 1 (List.map vi v9))] (cy (IN (.store 1 (.t 69) (.t 67)))) (ok_store_m (l := v10) (e := vi) (x' := Int.tdiv (a0 * (ix a1 v8)) v6) (u := vi (Int.tdiv (a0 * (ix a1 v8)) v6)) rfl rfl rfl c13 rfl rfl) rfl rfl rfl ?_
      obtain ⟨c14, h⟩ := chk_some h
      refine jv (.ptr 4 v8 0) (cy (I0 70 (.iaddr 1 (.t 61) (.t 62)))) (ok_iaddr_o0 (j := v8) rfl rfl rfl rfl c14) rfl ?_
      refine je (.undef) [some (.row 1 [vi a0]), some (.row 1 [eS 1 vi a1]), some (.row 1 [vi v6]), some (.row 1 (List.map vi (List.set v10 v8 (Int.tdiv (a0 * (ix a1 v8)) v6)))), some (.row 1 (List.map vi (List.set v9 v8 (v8 : Int))))] (cy (IN (.store 1 (.t 70) (.t 68)))) (ok_store_m (l := v9) (e := vi) (x' := (v8 : Int)) (u := vi v8) rfl rfl rfl c14 rfl rfl) rfl rfl rfl ?_
      refine jp [(2, .ptr 0 0 0), (3, .ptr 1 0 0), (6, .ptr 2 0 0), (9, .own 3 0 v10.length), (10, .own 4 0 v9.length), (11, vi v7), (52, eS 1 vi a1), (53, vi (a1.length : Int)), (54, vi v8), (12, vi v8)] ?_
      refine TriE.regJ ?_
      refine rn 3 [(2, .ptr 0 0 0), (3, .ptr 1 0 0), (6, .ptr 2 0 0), (9, .own 3 0 v10.length), (10, .own 4 0 v9.length), (52, eS 1 vi a1), (53, vi (a1.length : Int)), (54, vi v8), (71, vi v7), (72, .own 3 0 v10.length), (73, vi v8)] [some (.row 1 [vi a0]), some (.row 1 [eS 1 vi a1]), some (.row 1 [vi v6]), some (.row 1 (List.map vi (List.set v10 v8 (Int.tdiv (a0 * (ix a1 v8)) v6)))), some (.row 1 (List.map vi (List.set v9 v8 (v8 : Int))))] ?_
      refine jv (.ptr 3 v8 0) (cy (I0 74 (.iaddr 1 (.t 72) (.t 73)))) (ok_iaddr_o0 (j := v8) rfl rfl rfl rfl c13) rfl ?_
      obtain ⟨c15, h⟩ := chk_some h
      refine jv (vi (ix (List.set v10 v8 (Int.tdiv (a0 * (ix a1 v8)) v6)) v8)) (cy (I0 75 (.load false 1 (.t 74)))) (ok_load_pm (l := (List.set v10 v8 (Int.tdiv (a0 * (ix a1 v8)) v6))) (e := vi) (v := vi (ix (List.set v10 v8 (Int.tdiv (a0 * (ix a1 v8)) v6)) v8)) rfl rfl c15 rfl) rfl ?_
      obtain ⟨c16, h⟩ := chk_some h
      refine jv (vi (v7 - (ix (List.set v10 v8 (Int.tdiv (a0 * (ix a1 v8)) v6)) v8))) (cy (I0 76 (.bin .sub false (.t 71) (.t 75)))) (r_sub rfl rfl c16) rfl ?_
      refine jq 1 [(2, .ptr 0 0 0), (3, .ptr 1 0 0), (6, .ptr 2 0 0), (9, .own 3 0 v10.length), (10, .own 4 0 v9.length), (52, eS 1 vi a1), (53, vi (a1.length : Int)), (54, vi v8), (11, vi (v7 - (ix (List.set v10 v8 (Int.tdiv (a0 * (ix a1 v8)) v6)) v8)))] [some (.row 1 [vi a0]), some (.row 1 [eS 1 vi a1]), some (.row 1 [vi v6]), some (.row 1 (List.map vi (List.set v10 v8 (Int.tdiv (a0 * (ix a1 v8)) v6)))), some (.row 1 (List.map vi (List.set v9 v8 (v8 : Int))))] ?_
      refine TriE.regJ ?_
      obtain ⟨c17, h⟩ := chk_some h
      refine jv (vi ((v8 + 1 : Nat) : Int)) (cy (I0 77 (.bin .add false (.t 54) (.c (.p (.int .i64 1)))))) (r_addn (i := v8) (j := 1) rfl rfl c17) rfl ?_
      refine jq 1 [(2, .ptr 0 0 0), (3, .ptr 1 0 0), (6, .ptr 2 0 0), (9, .own 3 0 v10.length), (10, .own 4 0 v9.length), (52, eS 1 vi a1), (53, vi (a1.length : Int)), (11, vi (v7 - (ix (List.set v10 v8 (Int.tdiv (a0 * (ix a1 v8)) v6)) v8))), (54, vi ((v8 + 1 : Nat) : Int))] [some (.row 1 [vi a0]), some (.row 1 [eS 1 vi a1]), some (.row 1 [vi v6]), some (.row 1 (List.map vi (List.set v10 v8 (Int.tdiv (a0 * (ix a1 v8)) v6)))), some (.row 1 (List.map vi (List.set v9 v8 (v8 : Int))))] ?_
      exact Vs.intro (Sees.less (.cons rfl (.cons rfl (.cons rfl (.cons (by simp only [List.length_set]; rfl) (.cons (by simp only [List.length_set]; rfl) (.cons rfl (.cons rfl (.cons rfl (.cons rfl .nil)))))))))) ⟨(v7 - (ix (List.set v10 v8 (Int.tdiv (a0 * (ix a1 v8)) v6)) v8), v8 + 1, (List.set v9 v8 (v8 : Int)), (List.set v10 v8 (Int.tdiv (a0 * (ix a1 v8)) v6))), rfl, h⟩
    have h := cond_f h c10
    refine TriE.exit ?_
    exact Vs.intro sy ⟨(v7, v9, v10), rfl, h⟩
  intro k1 h
  refine sj ?_
  refine rn 1 [(2, .ptr 0 0 0), (3, .ptr 1 0 0), (6, .ptr 2 0 0), (35, eS 1 vi a1)] [some (.row 1 [vi a0]), some (.row 1 [eS 1 vi a1]), some (.row 1 [vi 0])] ?_
  refine jv (vi (a1.length : Int)) (cy (I0 36 (.len 0 (.t 35)))) (ok_len_m rfl) rfl ?_
  refine jq 1 [(2, .ptr 0 0 0), (3, .ptr 1 0 0), (6, .ptr 2 0 0), (35, eS 1 vi a1), (36, vi (a1.length : Int)), (37, vi 0)] [some (.row 1 [vi a0]), some (.row 1 [eS 1 vi a1]), some (.row 1 [vi 0])] ?_
  refine TriE.block ?_
  refine TriE.sees (S' := ⟨[(2, .ptr 0 0 0), (3, .ptr 1 0 0), (6, .ptr 2 0 0), (35, eS 1 vi a1), (36, vi (a1.length : Int)), (37, vi 0)], [some (.row 1 [vi a0]), some (.row 1 [eS 1 vi a1]), some (.row 1 [vi 0])]⟩) sy ?_
  refine TriE.loopN h (fun (t : Nat × Int) => match t with | (v4, v5) => St.mk [(2, .ptr 0 0 0), (3, .ptr 1 0 0), (6, .ptr 2 0 0), (35, eS 1 vi a1), (36, vi (a1.length : Int)), (37, vi v4)] [some (.row 1 [vi a0]), some (.row 1 [eS 1 vi a1]), some (.row 1 [vi v5])]) rfl ?_
  clear h
  rintro back ⟨v4, v5⟩ h
  dsimp only [restore_Split_L1] at h
  refine sj ?_
  refine jv (vb (decide (v4 < a1.length))) (cy (I0 38 (.bin .lss false (.t 37) (.t 36)))) (n_lss (i := v4) (j := a1.length) rfl rfl) rfl ?_
  refine jp [(2, .ptr 0 0 0), (3, .ptr 1 0 0), (6, .ptr 2 0 0), (35, eS 1 vi a1), (36, vi (a1.length : Int)), (37, vi v4), (38, vb (decide (v4 < a1.length)))] ?_
  refine TriE.seq ?_
  refine TriE.cond (b := decide (v4 < a1.length)) rfl (fun c6 => ?_) (fun c6 => ?_)
  · have h := cond_t h c6
    refine TriE.skip ?_
    refine TriE.seq ?_
    refine TriE.block ?_
    refine sj ?_
    refine jv (.fptr 1 (List.map vi a1) v4 0) (cy (I0 39 (.iaddr 1 (.t 35) (.t 37)))) (ok_iaddr_m (j := v4) rfl rfl rfl c6) rfl ?_
    refine jv (vi (ix a1 v4)) (cy (I0 40 (.load false 1 (.t 39)))) (ok_load_fm (v := vi (ix a1 v4)) rfl c6 rfl) rfl ?_
    refine jq 1 [(2, .ptr 0 0 0), (3, .ptr 1 0 0), (6, .ptr 2 0 0), (35, eS 1 vi a1), (36, vi (a1.length : Int)), (37, vi v4), (8, vi (ix a1 v4))] [some (.row 1 [vi a0]), some (.row 1 [eS 1 vi a1]), some (.row 1 [vi v5])] ?_
    refine TriE.regJ ?_
    refine rn 2 [(2, .ptr 0 0 0), (3, .ptr 1 0 0), (6, .ptr 2 0 0), (35, eS 1 vi a1), (36, vi (a1.length : Int)), (37, vi v4), (41, vi v5), (42, vi (ix a1 v4))] [some (.row 1 [vi a0]), some (.row 1 [eS 1 vi a1]), some (.row 1 [vi v5])] ?_
    obtain ⟨c7, h⟩ := chk_some h
    refine jv (vi (v5 + (ix a1 v4))) (cy (I0 43 (.bin .add false (.t 41) (.t 42)))) (r_add rfl rfl c7) rfl ?_
    refine jq 1 [(2, .ptr 0 0 0), (3, .ptr 1 0 0), (6, .ptr 2 0 0), (35, eS 1 vi a1), (36, vi (a1.length : Int)), (37, vi v4)] [some (.row 1 [vi a0]), some (.row 1 [eS 1 vi a1]), some (.row 1 [vi (v5 + (ix a1 v4))])] ?_
    refine TriE.regJ ?_
    obtain ⟨c8, h⟩ := chk_some h
    refine jv (vi ((v4 + 1 : Nat) : Int)) (cy (I0 44 (.bin .add false (.t 37) (.c (.p (.int .i64 1)))))) (r_addn (i := v4) (j := 1) rfl rfl c8) rfl ?_
    refine jq 1 [(2, .ptr 0 0 0), (3, .ptr 1 0 0), (6, .ptr 2 0 0), (35, eS 1 vi a1), (36, vi (a1.length : Int)), (37, vi ((v4 + 1 : Nat) : Int))] [some (.row 1 [vi a0]), some (.row 1 [eS 1 vi a1]), some (.row 1 [vi (v5 + (ix a1 v4))])] ?_
    exact Vs.intro sy ⟨(v4 + 1, v5 + (ix a1 v4)), rfl, h⟩
  have h := cond_f h c6
  refine TriE.exit ?_
  exact Vs.intro sy ⟨v5, rfl, h⟩
theorem agraffebase_Within_ok (n : Nat) (a0 : Int) (a1 : Int) (a2 : Int) (r : Unit) (h : agraffebase_Within n a0 a1 a2 = some r) : FnL Try.prog 9 [vi a0, vi a1, vi a2] [] (vb ((decide (a1 ≤ a0)) && (decide (a0 ≤ a2)))) [] := by
  dsimp only [agraffebase_Within] at h
  refine FnL.ofS (ts := [6]) Try.call9 Try.func9 rfl rfl (Nat.le_of_ble_eq_true rfl) (Nat.le_of_ble_eq_true rfl) (fun j h => absurd h (Nat.not_lt_zero j)) ?_
  refine sr [(0, vi a0), (1, vi a1), (2, vi a2)] [] ?_
  refine sj ?_
  refine rn 4 [(0, vi a0), (2, vi a2), (10, vb (decide (a1 ≤ a0)))] [] ?_
  refine RegJ.op (Op1.valk (v := vi a0) _ _ (cy (IG 11 (.mov (.t 0)) 10 true)) rfl (by kernel_rfl) (fun hg => (.cons rfl .nil))) ?_
  refine RegJ.op (Op1.valk (v := vi a2) _ _ (cy (IG 12 (.mov (.t 2)) 10 true)) rfl (by kernel_rfl) (fun hg => (.cons rfl .nil))) ?_
  refine RegJ.op (Op1.valk (v := vb (decide (a0 ≤ a2))) _ _ (cy (IG 13 (.bin .leq false (.t 11) (.t 12)) 10 true)) rfl (by kernel_rfl) (fun hg => (.cons hg (.cons hg .nil)))) ?_
  refine RegJ.op (Op1.and (cy (I0 14 (.pick (.t 10) (.t 13) (.c (.p (.bool false)))))) rfl rfl (by first | exact hokA1 | exact hokA0 | simp)) ?_
  refine jq 1 [(6, vb ((decide (a1 ≤ a0)) && (decide (a0 ≤ a2))))] [] ?_
  refine TriE.ret ?_
  have h := Option.some.inj h
  subst h
  exact DoneS.ret (S' := ⟨[(6, vb ((decide (a1 ≤ a0)) && (decide (a0 ≤ a2))))], []⟩) Sees.refl rfl rfl
theorem agraffebase_Floor_ok (n : Nat) (a0 : Int) (a1 : Int) (r : Int) (h : agraffebase_Floor n a0 a1 = some r) : FnL Try.prog 23 [vi a0, vi a1] [] (vi r) [] := by
  dsimp only [agraffebase_Floor] at h
  refine FnL.ofS (ts := [4]) Try.call23 Try.func23 rfl rfl (Nat.le_of_ble_eq_true rfl) (Nat.le_of_ble_eq_true rfl) (fun j h => absurd h (Nat.not_lt_zero j)) ?_
  refine sr [(0, vi a0), (1, vi a1)] [] ?_
  refine sj ?_
  refine rn 2 [(0, vi a0), (1, vi a1), (6, vi a0), (7, vi a1)] [] ?_
  obtain ⟨c1, h⟩ := chk_some h
  refine jv (vi (Int.tdiv a0 a1)) (cy (I0 8 (.bin .quo false (.t 6) (.t 7)))) (r_quo rfl rfl c1) rfl ?_
  refine jq 1 [(0, vi a0), (1, vi a1), (5, vi (Int.tdiv a0 a1))] [] ?_
  refine TriE.seqK h (fun (v1 : Int) => St.mk [(5, vi v1)] []) ?_ ?_
  · rintro v1 h
    refine sr [(4, vi v1)] [] ?_
    refine TriE.ret ?_
    have h := Option.some.inj h
    subst h
    exact DoneS.ret (S' := ⟨[(4, vi v1)], []⟩) Sees.refl rfl rfl
  intro k1 h
  refine sj ?_
  refine rn 2 [(5, vi (Int.tdiv a0 a1)), (9, vi a0), (10, vi a1)] [] ?_
  obtain ⟨c2, h⟩ := chk_some h
  refine jv (vi (Int.tmod a0 a1)) (cy (I0 11 (.bin .rem false (.t 9) (.t 10)))) (r_rem rfl rfl c2) rfl ?_
  refine jq 1 [(5, vi (Int.tdiv a0 a1)), (12, vb (decide ((Int.tmod a0 a1) < (0 : Int))))] [] ?_
  refine TriE.cond (b := decide ((Int.tmod a0 a1) < (0 : Int))) rfl (fun c3 => ?_) (fun c3 => ?_)
  · have h := cond_t h c3
    refine TriE.regJ ?_
    refine rn 1 [(13, vi (Int.tdiv a0 a1))] [] ?_
    obtain ⟨c4, h⟩ := chk_some h
    refine jv (vi ((Int.tdiv a0 a1) - 1)) (cy (I0 14 (.bin .sub false (.t 13) (.c (.p (.int .i64 1)))))) (r_sub rfl rfl c4) rfl ?_
    refine jq 1 [(5, vi ((Int.tdiv a0 a1) - 1))] [] ?_
    exact Vs.intro Sees.refl ⟨((Int.tdiv a0 a1) - 1), rfl, h⟩
  have h := cond_f h c3
  refine TriE.skip ?_
  exact Vs.intro sy ⟨(Int.tdiv a0 a1), rfl, h⟩
theorem agrafferef08_Split_ok (n : Nat) (a0 : Int) (a1 : List Int) (r : Int × (List Int)) (h : agrafferef08_Split n a0 a1 = some r) : FnL Try.prog 7 [vi a0, eS 1 vi a1] [] (.tup [eS 1 vi r.2, vi r.1]) [] := by
  dsimp only [agrafferef08_Split] at h
  refine FnL.ofS (ts := [4, 5]) Try.call7 Try.func7 rfl rfl (Nat.le_of_ble_eq_true rfl) (Nat.le_of_ble_eq_true rfl) (fun j h => absurd h (Nat.not_lt_zero j)) ?_
  refine sr [(0, vi a0), (1, eS 1 vi a1)] [] ?_
  refine TriE.seq ?_
  refine sj ?_
  refine rn 1 [(0, vi a0), (1, eS 1 vi a1), (14, vi a0)] [] ?_
  obtain ⟨y1, hy1, h⟩ := bind_some h
  refine RegJ.op (Op1.call (y' := vb ((decide (0 ≤ a0)) && (decide (a0 ≤ 1000000000000)))) (obx := []) (oby := []) (ob2 := []) _ _ (cy (I0 15 (.call 9 [(.t 14), (.c (.p (.int .i64 0))), (.c (.p (.int .i64 1000000000000)))]))) rfl (agraffebase_Within_ok n a0 0 1000000000000 y1 hy1) [] (by kernel_rfl) (.cons rfl (.cons rfl (.cons rfl (.cons rfl .nil)))) (by kernel_rfl) (by kernel_rfl) ObsRen.nil (by kernel_rfl) ObsRen.nil (by kernel_rfl)) ?_
  refine jq 1 [(0, vi a0), (1, eS 1 vi a1), (16, vb (!((decide (0 ≤ a0)) && (decide (a0 ≤ 1000000000000)))))] [] ?_
  refine TriE.cond (b := !((decide (0 ≤ a0)) && (decide (a0 ≤ 1000000000000)))) rfl (fun c1 => ?_) (fun c1 => ?_)
  · have h := cond_t h c1
    refine sr [(4, .emp), (5, vi 2)] [] ?_
    refine TriE.ret ?_
    have h := Option.some.inj h
    subst h
    exact DoneS.ret (S' := ⟨[(4, eS 1 vi ([] : List Int)), (5, vi 2)], []⟩) (Sees.trans (Sees.vco (fr' := [(4, eS 1 vi ([] : List Int)), (5, vi 2)]) (.cons .sl (.cons .same .nil))) sy) rfl rfl
  have h := cond_f h c1
  refine TriE.skip ?_
  refine TriE.seq ?_
  refine sj ?_
  refine rn 1 [(0, vi a0), (1, eS 1 vi a1), (17, eS 1 vi a1)] [] ?_
  refine jv (vi (a1.length : Int)) (cy (I0 18 (.len 0 (.t 17)))) (ok_len_m rfl) rfl ?_
  refine jv (vb (decide (a1.length = 0))) (cy (I0 19 (.bin .eql false (.t 18) (.c (.p (.int .i64 0)))))) (n_eql (i := a1.length) (j := 0) rfl rfl) rfl ?_
  refine jp [(0, vi a0), (1, eS 1 vi a1), (19, vb (decide (a1.length = 0)))] ?_
  refine TriE.cond (b := decide (a1.length = 0)) rfl (fun c2 => ?_) (fun c2 => ?_)
  · have h := cond_t h c2
    refine sr [(4, .emp), (5, vi 10)] [] ?_
    refine TriE.ret ?_
    have h := Option.some.inj h
    subst h
    exact DoneS.ret (S' := ⟨[(4, eS 1 vi ([] : List Int)), (5, vi 10)], []⟩) (Sees.trans (Sees.vco (fr' := [(4, eS 1 vi ([] : List Int)), (5, vi 10)]) (.cons .sl (.cons .same .nil))) sy) rfl rfl
  have h := cond_f h c2
  refine TriE.skip ?_
  refine TriE.seq ?_
  refine sj ?_
  refine rn 1 [(0, vi a0), (1, eS 1 vi a1), (20, eS 1 vi a1)] [] ?_
  refine jv (vi (a1.length : Int)) (cy (I0 21 (.len 0 (.t 20)))) (ok_len_m rfl) rfl ?_
  refine jv (vb (decide (60 < a1.length))) (cy (I0 22 (.bin .gtr false (.t 21) (.c (.p (.int .i64 60)))))) (n_gtr (i := a1.length) (j := 60) rfl rfl) rfl ?_
  refine jp [(0, vi a0), (1, eS 1 vi a1), (22, vb (decide (60 < a1.length)))] ?_
  refine TriE.cond (b := decide (60 < a1.length)) rfl (fun c3 => ?_) (fun c3 => ?_)
  · have h := cond_t h c3
    refine sr [(4, .emp), (5, vi 8)] [] ?_
    refine TriE.ret ?_
    have h := Option.some.inj h
    subst h
    exact DoneS.ret (S' := ⟨[(4, eS 1 vi ([] : List Int)), (5, vi 8)], []⟩) (Sees.trans (Sees.vco (fr' := [(4, eS 1 vi ([] : List Int)), (5, vi 8)]) (.cons .sl (.cons .same .nil))) sy) rfl rfl
  have h := cond_f h c3
  refine TriE.skip ?_
  refine sr [(0, vi a0), (1, eS 1 vi a1), (6, vi 0)] [] ?_
  refine TriE.seqK h (fun (v6 : Int) => St.mk [(0, vi a0), (1, eS 1 vi a1), (6, vi v6)] []) ?_ ?_
  · rintro v6 h
    refine TriE.seq ?_
    refine sr [(0, vi a0), (1, eS 1 vi a1), (6, vi v6), (42, vb (v6 == (0 : Int)))] [] ?_
    refine TriE.cond (b := (v6 == (0 : Int))) rfl (fun c8 => ?_) (fun c8 => ?_)
    · have h := cond_t h c8
      refine sr [(4, .emp), (5, vi 11)] [] ?_
      refine TriE.ret ?_
      have h := Option.some.inj h
      subst h
      exact DoneS.ret (S' := ⟨[(4, eS 1 vi ([] : List Int)), (5, vi 11)], []⟩) (Sees.trans (Sees.vco (fr' := [(4, eS 1 vi ([] : List Int)), (5, vi 11)]) (.cons .sl (.cons .same .nil))) sy) rfl rfl
    have h := cond_f h c8
    refine TriE.skip ?_
    refine sr [(0, vi a0), (1, eS 1 vi a1), (6, vi v6), (8, .emp), (9, .emp)] [] ?_
    refine sr [(0, vi a0), (1, eS 1 vi a1), (6, vi v6), (8, .emp), (9, .emp), (10, vi a0)] [] ?_
    refine TriE.seqK h (fun (t : Int × (List Int) × (List Int)) => match t with | (v13, v14, v15) => St.mk [(8, .own 0 0 v15.length), (9, .own 1 0 v14.length), (10, vi v13)] [some (.row 1 (List.map vi v15)), some (.row 1 (List.map vi v14))]) ?_ ?_
    · rintro ⟨v13, v14, v15⟩ h
      refine TriE.seqK h (fun (v29 : (List Int)) => St.mk [(8, .own 0 0 v29.length)] [some (.row 1 (List.map vi v29))]) ?_ ?_
      · rintro v29 h
        refine sr [(4, .own 0 0 v29.length), (5, vi 0)] [some (.row 1 (List.map vi v29))] ?_
        refine TriE.ret ?_
        have h := Option.some.inj h
        subst h
        exact DoneS.ret (S' := ⟨[(4, eS 1 vi v29), (5, vi 0)], []⟩) (Sees.trans (Sees.freeze 0 (fr' := [(4, eS 1 vi v29), (5, vi 0)]) (ob' := [none]) rfl (frz_row vi_frzE _) (.cons (frz_full rfl) (.cons (.refl _) .nil)) rfl) (sc [] (by decide) (by kernel_rfl) ObRen.nil rfl rfl)) rfl rfl
      intro k5 h
      refine TriE.block ?_
      refine TriE.loopN h (fun (t : Int × (List Int) × (List Int)) => match t with | (v21, v22, v23) => St.mk [(8, .own 0 0 v23.length), (9, .own 1 0 v22.length), (10, vi v21)] [some (.row 1 (List.map vi v23)), some (.row 1 (List.map vi v22))]) rfl ?_
      clear h
      rintro back ⟨v21, v22, v23⟩ h
      dsimp only [agrafferef08_Split_L4] at h
      refine TriE.seq ?_
      refine sr [(8, .own 0 0 v23.length), (9, .own 1 0 v22.length), (10, vi v21), (84, vb (decide ((0 : Int) < v21)))] [some (.row 1 (List.map vi v23)), some (.row 1 (List.map vi v22))] ?_
      refine TriE.cond (b := decide ((0 : Int) < v21)) rfl (fun c19 => ?_) (fun c19 => ?_)
      · have h := cond_t h c19
        refine TriE.skip ?_
        refine TriE.seq ?_
        refine TriE.block ?_
        refine sr [(8, .own 0 0 v23.length), (9, .own 1 0 v22.length), (10, vi v21), (12, vi 0)] [some (.row 1 (List.map vi v23)), some (.row 1 (List.map vi v22))] ?_
        refine TriE.seqK h (fun (v28 : Int) => St.mk [(8, .own 0 0 v23.length), (9, .own 1 0 v22.length), (10, vi v21), (12, vi v28)] [some (.row 1 (List.map vi v23)), some (.row 1 (List.map vi v22))]) ?_ ?_
        · rintro v28 h
          refine sj ?_
          refine rn 4 [(8, .own 0 0 v23.length), (9, .own 1 0 v22.length), (10, vi v21), (12, vi v28), (103, .own 0 0 v23.length), (104, vi v28), (105, .own 0 0 v23.length), (106, vi v28)] [some (.row 1 (List.map vi v23)), some (.row 1 (List.map vi v22))] ?_
          obtain ⟨c25, h⟩ := chk_some h
          refine jv (.ptr 0 v28.toNat 0) (cy (I0 107 (.iaddr 1 (.t 105) (.t 106)))) (ok_iaddr_o0 (j := v28.toNat) rfl rfl rfl (inB_to c25) (inB_lt c25)) rfl ?_
          obtain ⟨c26, h⟩ := chk_some h
          refine jv (vi (ix v23 v28.toNat)) (cy (I0 108 (.load false 1 (.t 107)))) (ok_load_pm (l := v23) (e := vi) (v := vi (ix v23 v28.toNat)) rfl rfl c26 rfl) rfl ?_
          obtain ⟨c27, h⟩ := chk_some h
          refine jv (vi ((ix v23 v28.toNat) + 1)) (cy (I0 109 (.bin .add false (.t 108) (.c (.p (.int .i64 1)))))) (r_add rfl rfl c27) rfl ?_
          refine jv (.ptr 0 v28.toNat 0) (cy (I0 110 (.iaddr 1 (.t 103) (.t 104)))) (ok_iaddr_o0 (j := v28.toNat) rfl rfl rfl (inB_to c25) (inB_lt c25)) rfl ?_
          refine je (.undef) [some (.row 1 (List.map vi (List.set v23 v28.toNat ((ix v23 v28.toNat) + 1)))), some (.row 1 (List.map vi v22))] (cy (IN (.store 1 (.t 110) (.t 109)))) (ok_store_m (l := v23) (e := vi) (x' := (ix v23 v28.toNat) + 1) (u := vi ((ix v23 v28.toNat) + 1)) rfl rfl rfl c26 rfl rfl) rfl rfl rfl ?_
          refine jp [(8, .own 0 0 v23.length), (9, .own 1 0 v22.length), (10, vi v21), (12, vi v28)] ?_
          refine TriE.regJ ?_
          refine rn 2 [(8, .own 0 0 v23.length), (9, .own 1 0 v22.length), (10, vi v21), (111, .own 1 0 v22.length), (112, vi v28)] [some (.row 1 (List.map vi (List.set v23 v28.toNat ((ix v23 v28.toNat) + 1)))), some (.row 1 (List.map vi v22))] ?_
          obtain ⟨c28, h⟩ := chk_some h
          refine jv (.ptr 1 v28.toNat 0) (cy (I0 113 (.iaddr 1 (.t 111) (.t 112)))) (ok_iaddr_o0 (j := v28.toNat) rfl rfl rfl (inB_to c28) (inB_lt c28)) rfl ?_
          obtain ⟨c29, h⟩ := chk_some h
          refine je (.undef) [some (.row 1 (List.map vi (List.set v23 v28.toNat ((ix v23 v28.toNat) + 1)))), some (.row 1 (List.map vi (List.set v22 v28.toNat (-1))))] (cy (IN (.store 1 (.t 113) (.c (.p (.int .i64 (-1))))))) (ok_store_m (l := v22) (e := vi) (x' := (-1)) (u := vi (-1)) rfl rfl rfl c29 rfl rfl) rfl rfl rfl ?_
          refine jp [(8, .own 0 0 v23.length), (9, .own 1 0 v22.length), (10, vi v21)] ?_
          refine TriE.regJ ?_
          refine rn 1 [(8, .own 0 0 v23.length), (9, .own 1 0 v22.length), (85, vi v21)] [some (.row 1 (List.map vi (List.set v23 v28.toNat ((ix v23 v28.toNat) + 1)))), some (.row 1 (List.map vi (List.set v22 v28.toNat (-1))))] ?_
          obtain ⟨c30, h⟩ := chk_some h
          refine jv (vi (v21 - 1)) (cy (I0 86 (.bin .sub false (.t 85) (.c (.p (.int .i64 1)))))) (r_sub rfl rfl c30) rfl ?_
          refine jq 1 [(8, .own 0 0 v23.length), (9, .own 1 0 v22.length), (10, vi (v21 - 1))] [some (.row 1 (List.map vi (List.set v23 v28.toNat ((ix v23 v28.toNat) + 1)))), some (.row 1 (List.map vi (List.set v22 v28.toNat (-1))))] ?_
          exact Vs.intro (Sees.less (.cons (by simp only [List.length_set]; rfl) (.cons (by simp only [List.length_set]; rfl) (.cons rfl .nil)))) ⟨(v21 - 1, (List.set v22 v28.toNat (-1)), (List.set v23 v28.toNat ((ix v23 v28.toNat) + 1))), rfl, h⟩
        intro k4 h
        refine sr [(8, .own 0 0 v23.length), (9, .own 1 0 v22.length), (10, vi v21), (12, vi 0), (13, vi 1)] [some (.row 1 (List.map vi v23)), some (.row 1 (List.map vi v22))] ?_
        refine TriE.block ?_
        refine TriE.sees (S' := ⟨[(8, .own 0 0 v23.length), (9, .own 1 0 v22.length), (10, vi v21), (12, vi 0), (13, vi 1)], [some (.row 1 (List.map vi v23)), some (.row 1 (List.map vi v22))]⟩) sy ?_
        refine TriE.loopN h (fun (t : Int × Nat) => match t with | (v25, v26) => St.mk [(8, .own 0 0 v23.length), (9, .own 1 0 v22.length), (10, vi v21), (12, vi v25), (13, vi v26)] [some (.row 1 (List.map vi v23)), some (.row 1 (List.map vi v22))]) rfl ?_
        clear h
        rintro back ⟨v25, v26⟩ h
        dsimp only [agrafferef08_Split_L3] at h
        refine TriE.seq ?_
        refine sj ?_
        refine rn 3 [(8, .own 0 0 v23.length), (9, .own 1 0 v22.length), (10, vi v21), (12, vi v25), (13, vi v26), (87, vi v26), (89, vi (v22.length : Int))] [some (.row 1 (List.map vi v23)), some (.row 1 (List.map vi v22))] ?_
        refine jv (vb (decide (v26 < v22.length))) (cy (I0 90 (.bin .lss false (.t 87) (.t 89)))) (n_lss (i := v26) (j := v22.length) rfl rfl) rfl ?_
        refine jp [(8, .own 0 0 v23.length), (9, .own 1 0 v22.length), (10, vi v21), (12, vi v25), (13, vi v26), (90, vb (decide (v26 < v22.length)))] ?_
        refine TriE.cond (b := decide (v26 < v22.length)) rfl (fun c20 => ?_) (fun c20 => ?_)
        · have h := cond_t h c20
          refine TriE.skip ?_
          refine TriE.seqK h (fun (v27 : Int) => St.mk [(8, .own 0 0 v23.length), (9, .own 1 0 v22.length), (10, vi v21), (13, vi v26), (12, vi v27)] [some (.row 1 (List.map vi v23)), some (.row 1 (List.map vi v22))]) ?_ ?_
          · rintro v27 h
            refine TriE.regJ ?_
            refine rn 1 [(8, .own 0 0 v23.length), (9, .own 1 0 v22.length), (10, vi v21), (12, vi v27), (91, vi v26)] [some (.row 1 (List.map vi v23)), some (.row 1 (List.map vi v22))] ?_
            obtain ⟨c24, h⟩ := chk_some h
            refine jv (vi ((v26 + 1 : Nat) : Int)) (cy (I0 92 (.bin .add false (.t 91) (.c (.p (.int .i64 1)))))) (r_addn (i := v26) (j := 1) rfl rfl c24) rfl ?_
            refine jq 1 [(8, .own 0 0 v23.length), (9, .own 1 0 v22.length), (10, vi v21), (12, vi v27), (13, vi ((v26 + 1 : Nat) : Int))] [some (.row 1 (List.map vi v23)), some (.row 1 (List.map vi v22))] ?_
            exact Vs.intro sy ⟨(v27, v26 + 1), rfl, h⟩
          intro k3 h
          refine TriE.block ?_
          refine TriE.seq ?_
          refine TriE.sees (Sees.less (fr' := [(8, .own 0 0 v23.length), (9, .own 1 0 v22.length), (10, vi v21), (12, vi v25), (13, vi v26)]) (.cons rfl (.cons rfl (.cons rfl (.cons rfl (.cons rfl .nil)))))) ?_
          refine TriE.draw (by kernel_rfl) ?_
          refine RegD.run 2 [(94, vi v26), (93, .own 1 0 v22.length), (8, .own 0 0 v23.length), (9, .own 1 0 v22.length), (10, vi v21), (12, vi v25), (13, vi v26)] [some (.row 1 (List.map vi v23)), some (.row 1 (List.map vi v22)), none, none] (by kernel_rfl) ?_
          refine dv (.ptr 1 v26 0) (cy (I0 95 (.iaddr 1 (.t 93) (.t 94)))) (ok_iaddr_o0 (j := v26) rfl rfl rfl rfl c20) rfl ?_
          refine dv (vi (ix v22 v26)) (cy (I0 96 (.load false 1 (.t 95)))) (ok_load_pm (l := v22) (e := vi) (v := vi (ix v22 v26)) rfl rfl c20 rfl) rfl ?_
          refine RegD.run 2 [(98, vi v25), (97, .own 1 0 v22.length), (96, vi (ix v22 v26)), (95, .ptr 1 v26 0), (94, vi v26), (93, .own 1 0 v22.length), (8, .own 0 0 v23.length), (9, .own 1 0 v22.length), (10, vi v21), (12, vi v25), (13, vi v26)] [some (.row 1 (List.map vi v23)), some (.row 1 (List.map vi v22)), none, none, none, none, none, none] (by kernel_rfl) ?_
          obtain ⟨c21, h⟩ := chk_some h
          refine dv (.ptr 1 v25.toNat 0) (cy (I0 99 (.iaddr 1 (.t 97) (.t 98)))) (ok_iaddr_o0 (j := v25.toNat) rfl rfl rfl (inB_to c21) (inB_lt c21)) rfl ?_
          obtain ⟨c22, h⟩ := chk_some h
          refine dv (vi (ix v22 v25.toNat)) (cy (I0 100 (.load false 1 (.t 99)))) (ok_load_pm (l := v22) (e := vi) (v := vi (ix v22 v25.toNat)) rfl rfl c22 rfl) rfl ?_
          refine RegD.run 1 [(101, vb (decide ((ix v22 v25.toNat) < (ix v22 v26)))), (100, vi (ix v22 v25.toNat)), (99, .ptr 1 v25.toNat 0), (98, vi v25), (97, .own 1 0 v22.length), (96, vi (ix v22 v26)), (95, .ptr 1 v26 0), (94, vi v26), (93, .own 1 0 v22.length), (8, .own 0 0 v23.length), (9, .own 1 0 v22.length), (10, vi v21), (12, vi v25), (13, vi v26)] [some (.row 1 (List.map vi v23)), some (.row 1 (List.map vi v22)), none, none, none, none, none, none, none, none, none] (by kernel_rfl) ?_
          refine RegD.done rfl (by kernel_rfl) (S' := ⟨[(8, .own 0 0 v23.length), (9, .own 1 0 v22.length), (10, vi v21), (12, vi v25), (13, vi v26), (101, vb (decide ((ix v22 v25.toNat) < (ix v22 v26))))], [some (.row 1 (List.map vi v23)), some (.row 1 (List.map vi v22))]⟩) (sc [0, 1] (by decide) (by kernel_rfl) (obRen_row vi_frz rfl (obRen_row vi_frz rfl .nil)) rfl rfl) ?_
          refine TriE.cond (b := decide ((ix v22 v25.toNat) < (ix v22 v26))) rfl (fun c23 => ?_) (fun c23 => ?_)
          · have h := cond_t h c23
            refine tr [(8, .own 0 0 v23.length), (9, .own 1 0 v22.length), (10, vi v21), (13, vi v26), (12, vi v26)] [some (.row 1 (List.map vi v23)), some (.row 1 (List.map vi v22))] ?_
            exact Vs.intro Sees.refl ⟨(v26 : Int), rfl, h⟩
          have h := cond_f h c23
          refine TriE.skip ?_
          exact Vs.intro sy ⟨v25, rfl, h⟩
        have h := cond_f h c20
        refine TriE.exit ?_
        exact Vs.intro sy ⟨v25, rfl, h⟩
      have h := cond_f h c19
      refine TriE.exit ?_
      exact Vs.intro (sc [0] (by decide) (by kernel_rfl) (obRen_row vi_frz rfl .nil) rfl rfl) ⟨v23, rfl, h⟩
    intro k2 h
    refine sr [(0, vi a0), (1, eS 1 vi a1), (6, vi v6), (8, .emp), (9, .emp), (10, vi a0), (11, vi 0)] [] ?_
    refine TriE.block ?_
    refine TriE.sees (S' := ⟨[(0, vi a0), (1, eS 1 vi a1), (6, vi v6), (8, .own 0 0 ([] : List Int).length), (9, .own 1 0 ([] : List Int).length), (10, vi a0), (11, vi 0)], [some (.row 1 (List.map vi ([] : List Int))), some (.row 1 (List.map vi ([] : List Int)))]⟩) (Sees.trans (Sees.co (fr' := [(0, vi a0), (1, eS 1 vi a1), (6, vi v6), (8, .own 0 0 0), (9, .emp), (10, vi a0), (11, vi 0)]) (ob' := []) (.cons .same (.cons .same (.cons .same (.cons .own (.cons .same (.cons .same (.cons .same .nil))))))) ObCo.nil 1) (Sees.trans (Sees.co (fr' := [(0, vi a0), (1, eS 1 vi a1), (6, vi v6), (8, .own 0 0 0), (9, .own 1 0 0), (10, vi a0), (11, vi 0)]) (ob' := [some (.row 1 (List.map vi ([] : List Int)))]) (.cons .same (.cons .same (.cons .same (.cons .same (.cons .own (.cons .same (.cons .same .nil))))))) (.same .nil) 1) sy)) ?_
    refine TriE.loopN h (fun (t : (List Int) × (List Int) × Int × Nat) => match t with | (v8, v9, v10, v11) => St.mk [(0, vi a0), (1, eS 1 vi a1), (6, vi v6), (8, .own 0 0 v8.length), (9, .own 1 0 v9.length), (10, vi v10), (11, vi v11)] [some (.row 1 (List.map vi v8)), some (.row 1 (List.map vi v9))]) rfl ?_
    clear h
    rintro back ⟨v8, v9, v10, v11⟩ h
    dsimp only [agrafferef08_Split_L2] at h
    refine TriE.seq ?_
    refine sj ?_
    refine rn 2 [(0, vi a0), (1, eS 1 vi a1), (6, vi v6), (8, .own 0 0 v8.length), (9, .own 1 0 v9.length), (10, vi v10), (11, vi v11), (44, vi v11), (45, eS 1 vi a1)] [some (.row 1 (List.map vi v8)), some (.row 1 (List.map vi v9))] ?_
    refine jv (vi (a1.length : Int)) (cy (I0 46 (.len 0 (.t 45)))) (ok_len_m rfl) rfl ?_
    refine jv (vb (decide (v11 < a1.length))) (cy (I0 47 (.bin .lss false (.t 44) (.t 46)))) (n_lss (i := v11) (j := a1.length) rfl rfl) rfl ?_
    refine jp [(0, vi a0), (1, eS 1 vi a1), (6, vi v6), (8, .own 0 0 v8.length), (9, .own 1 0 v9.length), (10, vi v10), (11, vi v11), (47, vb (decide (v11 < a1.length)))] ?_
    refine TriE.cond (b := decide (v11 < a1.length)) rfl (fun c9 => ?_) (fun c9 => ?_)
    · have h := cond_t h c9
      refine TriE.skip ?_
      refine TriE.seq ?_
      refine TriE.block ?_
      refine sj ?_
      refine rn 4 [(0, vi a0), (1, eS 1 vi a1), (6, vi v6), (9, .own 1 0 v9.length), (10, vi v10), (11, vi v11), (50, .own 0 0 v8.length), (51, vi a0), (52, eS 1 vi a1), (53, vi v11)] [some (.row 1 (List.map vi v8)), some (.row 1 (List.map vi v9))] ?_
      refine jv (.fptr 1 (List.map vi a1) v11 0) (cy (I0 54 (.iaddr 1 (.t 52) (.t 53)))) (ok_iaddr_m (j := v11) rfl rfl rfl c9) rfl ?_
      refine jv (vi (ix a1 v11)) (cy (I0 55 (.load false 1 (.t 54)))) (ok_load_fm (v := vi (ix a1 v11)) rfl c9 rfl) rfl ?_
      obtain ⟨c10, h⟩ := chk_some h
      refine jv (vi (a0 * (ix a1 v11))) (cy (I0 56 (.bin .mul false (.t 51) (.t 55)))) (r_mul rfl rfl c10) rfl ?_
      refine rn 1 [(0, vi a0), (1, eS 1 vi a1), (6, vi v6), (9, .own 1 0 v9.length), (10, vi v10), (11, vi v11), (50, .own 0 0 v8.length), (56, vi (a0 * (ix a1 v11))), (57, vi v6)] [some (.row 1 (List.map vi v8)), some (.row 1 (List.map vi v9))] ?_
      obtain ⟨y12, hy12, h⟩ := bind_some h
      refine RegJ.op (Op1.call (y' := vi y12) (obx := []) (oby := []) (ob2 := [some (.row 1 (List.map vi v8)), some (.row 1 (List.map vi v9))]) _ _ (cy (I0 58 (.call 23 [(.t 56), (.t 57)]))) rfl (agraffebase_Floor_ok n (a0 * (ix a1 v11)) v6 y12 hy12) [] (by kernel_rfl) (.cons rfl (.cons rfl (.cons rfl .nil))) (by kernel_rfl) (by kernel_rfl) ObsRen.nil (by kernel_rfl) ObsRen.nil (by kernel_rfl)) ?_
      refine rn 1 [(0, vi a0), (1, eS 1 vi a1), (6, vi v6), (9, .own 1 0 v9.length), (10, vi v10), (11, vi v11), (50, .own 0 0 v8.length), (59, .own 2 0 1)] [some (.row 1 (List.map vi v8)), some (.row 1 (List.map vi v9)), some (.row 1 [vi y12])] ?_
      obtain ⟨c11, h⟩ := chk_some h
      refine je (.own 3 0 ((v8 ++ ([y12] : List Int)).length)) [none, some (.row 1 (List.map vi v9)), some (.row 1 [vi y12]), some (.row 1 (List.map vi (v8 ++ ([y12] : List Int))))] (cy (I0 60 (.app 1 8 (.t 50) (.t 59)))) (ok_app_own (l := v8) (l2 := ([y12] : List Int)) (e := vi) (u := .own 2 0 1) rfl rfl rfl rfl rfl c11) rfl rfl rfl ?_
      refine jq 1 [(0, vi a0), (1, eS 1 vi a1), (6, vi v6), (9, .own 1 0 v9.length), (10, vi v10), (11, vi v11), (8, .own 3 0 ((v8 ++ ([y12] : List Int)).length))] [none, some (.row 1 (List.map vi v9)), some (.row 1 [vi y12]), some (.row 1 (List.map vi (v8 ++ ([y12] : List Int))))] ?_
      refine TriE.seq ?_
      refine TriE.sees (Sees.less (fr' := [(0, vi a0), (1, eS 1 vi a1), (6, vi v6), (9, .own 1 0 v9.length), (10, vi v10), (11, vi v11), (8, .own 3 0 ((v8 ++ ([y12] : List Int)).length))]) (.cons rfl (.cons rfl (.cons rfl (.cons rfl (.cons rfl (.cons rfl (.cons rfl .nil)))))))) ?_
      refine TriE.draw (by kernel_rfl) ?_
      refine RegD.run 4 [(64, vi v11), (63, eS 1 vi a1), (62, vi a0), (61, .own 1 0 v9.length), (0, vi a0), (1, eS 1 vi a1), (6, vi v6), (9, .own 1 0 v9.length), (10, vi v10), (11, vi v11), (8, .own 3 0 ((v8 ++ ([y12] : List Int)).length))] [none, some (.row 1 (List.map vi v9)), some (.row 1 [vi y12]), some (.row 1 (List.map vi (v8 ++ ([y12] : List Int)))), none, none, none, none] (by kernel_rfl) ?_
      refine dv (.fptr 1 (List.map vi a1) v11 0) (cy (I0 65 (.iaddr 1 (.t 63) (.t 64)))) (ok_iaddr_m (j := v11) rfl rfl rfl c9) rfl ?_
      refine dv (vi (ix a1 v11)) (cy (I0 66 (.load false 1 (.t 65)))) (ok_load_fm (v := vi (ix a1 v11)) rfl c9 rfl) rfl ?_
      refine dv (vi (a0 * (ix a1 v11))) (cy (I0 67 (.bin .mul false (.t 62) (.t 66)))) (r_mul rfl rfl c10) rfl ?_
      refine RegD.run 2 [(69, vi v11), (68, .own 3 0 ((v8 ++ ([y12] : List Int)).length)), (67, vi (a0 * (ix a1 v11))), (66, vi (ix a1 v11)), (65, .fptr 1 (List.map vi a1) v11 0), (64, vi v11), (63, eS 1 vi a1), (62, vi a0), (61, .own 1 0 v9.length), (0, vi a0), (1, eS 1 vi a1), (6, vi v6), (9, .own 1 0 v9.length), (10, vi v10), (11, vi v11), (8, .own 3 0 ((v8 ++ ([y12] : List Int)).length))] [none, some (.row 1 (List.map vi v9)), some (.row 1 [vi y12]), some (.row 1 (List.map vi (v8 ++ ([y12] : List Int)))), none, none, none, none, none, none, none, none, none] (by kernel_rfl) ?_
      obtain ⟨c12, h⟩ := chk_some h
      refine dv (.ptr 3 v11 0) (cy (I0 70 (.iaddr 1 (.t 68) (.t 69)))) (ok_iaddr_o0 (j := v11) rfl rfl rfl rfl c12) rfl ?_
      obtain ⟨c13, h⟩ := chk_some h
      refine dv (vi (ix (v8 ++ ([y12] : List Int)) v11)) (cy (I0 71 (.load false 1 (.t 70)))) (ok_load_pm (l := (v8 ++ ([y12] : List Int))) (e := vi) (v := vi (ix (v8 ++ ([y12] : List Int)) v11)) rfl rfl c13 rfl) rfl ?_
      refine RegD.run 1 [(72, vi v6), (71, vi (ix (v8 ++ ([y12] : List Int)) v11)), (70, .ptr 3 v11 0), (69, vi v11), (68, .own 3 0 ((v8 ++ ([y12] : List Int)).length)), (67, vi (a0 * (ix a1 v11))), (66, vi (ix a1 v11)), (65, .fptr 1 (List.map vi a1) v11 0), (64, vi v11), (63, eS 1 vi a1), (62, vi a0), (61, .own 1 0 v9.length), (0, vi a0), (1, eS 1 vi a1), (6, vi v6), (9, .own 1 0 v9.length), (10, vi v10), (11, vi v11), (8, .own 3 0 ((v8 ++ ([y12] : List Int)).length))] [none, some (.row 1 (List.map vi v9)), some (.row 1 [vi y12]), some (.row 1 (List.map vi (v8 ++ ([y12] : List Int)))), none, none, none, none, none, none, none, none, none, none, none, none] (by kernel_rfl) ?_
      obtain ⟨c14, h⟩ := chk_some h
      refine dv (vi ((ix (v8 ++ ([y12] : List Int)) v11) * v6)) (cy (I0 73 (.bin .mul false (.t 71) (.t 72)))) (r_mul rfl rfl c14) rfl ?_
      obtain ⟨c15, h⟩ := chk_some h
      refine dv (vi ((a0 * (ix a1 v11)) - ((ix (v8 ++ ([y12] : List Int)) v11) * v6))) (cy (I0 74 (.bin .sub false (.t 67) (.t 73)))) (r_sub rfl rfl c15) rfl ?_
      refine RegD.run 1 [(75, .own 18 0 1), (74, vi ((a0 * (ix a1 v11)) - ((ix (v8 ++ ([y12] : List Int)) v11) * v6))), (73, vi ((ix (v8 ++ ([y12] : List Int)) v11) * v6)), (72, vi v6), (71, vi (ix (v8 ++ ([y12] : List Int)) v11)), (70, .ptr 3 v11 0), (69, vi v11), (68, .own 3 0 ((v8 ++ ([y12] : List Int)).length)), (67, vi (a0 * (ix a1 v11))), (66, vi (ix a1 v11)), (65, .fptr 1 (List.map vi a1) v11 0), (64, vi v11), (63, eS 1 vi a1), (62, vi a0), (61, .own 1 0 v9.length), (0, vi a0), (1, eS 1 vi a1), (6, vi v6), (9, .own 1 0 v9.length), (10, vi v10), (11, vi v11), (8, .own 3 0 ((v8 ++ ([y12] : List Int)).length))] [none, some (.row 1 (List.map vi v9)), some (.row 1 [vi y12]), some (.row 1 (List.map vi (v8 ++ ([y12] : List Int)))), none, none, none, none, none, none, none, none, none, none, none, none, none, none, some (.row 1 [vi ((a0 * (ix a1 v11)) - ((ix (v8 ++ ([y12] : List Int)) v11) * v6))])] (by kernel_rfl) ?_
      obtain ⟨c16, h⟩ := chk_some h
      refine de (.own 19 0 ((v9 ++ ([(a0 * (ix a1 v11)) - ((ix (v8 ++ ([y12] : List Int)) v11) * v6)] : List Int)).length)) [none, none, some (.row 1 [vi y12]), some (.row 1 (List.map vi (v8 ++ ([y12] : List Int)))), none, none, none, none, none, none, none, none, none, none, none, none, none, none, some (.row 1 [vi ((a0 * (ix a1 v11)) - ((ix (v8 ++ ([y12] : List Int)) v11) * v6))]), some (.row 1 (List.map vi (v9 ++ ([(a0 * (ix a1 v11)) - ((ix (v8 ++ ([y12] : List Int)) v11) * v6)] : List Int))))] (cy (I0 76 (.app 1 8 (.t 61) (.t 75)))) (ok_app_own (l := v9) (l2 := ([(a0 * (ix a1 v11)) - ((ix (v8 ++ ([y12] : List Int)) v11) * v6)] : List Int)) (e := vi) (u := .own 18 0 1) rfl rfl rfl rfl rfl c16) rfl rfl rfl ?_
      refine RegD.run 1 [(9, .own 19 0 ((v9 ++ ([(a0 * (ix a1 v11)) - ((ix (v8 ++ ([y12] : List Int)) v11) * v6)] : List Int)).length)), (76, .own 19 0 ((v9 ++ ([(a0 * (ix a1 v11)) - ((ix (v8 ++ ([y12] : List Int)) v11) * v6)] : List Int)).length)), (75, .own 18 0 1), (74, vi ((a0 * (ix a1 v11)) - ((ix (v8 ++ ([y12] : List Int)) v11) * v6))), (73, vi ((ix (v8 ++ ([y12] : List Int)) v11) * v6)), (72, vi v6), (71, vi (ix (v8 ++ ([y12] : List Int)) v11)), (70, .ptr 3 v11 0), (69, vi v11), (68, .own 3 0 ((v8 ++ ([y12] : List Int)).length)), (67, vi (a0 * (ix a1 v11))), (66, vi (ix a1 v11)), (65, .fptr 1 (List.map vi a1) v11 0), (64, vi v11), (63, eS 1 vi a1), (62, vi a0), (61, .own 1 0 v9.length), (0, vi a0), (1, eS 1 vi a1), (6, vi v6), (9, .own 1 0 v9.length), (10, vi v10), (11, vi v11), (8, .own 3 0 ((v8 ++ ([y12] : List Int)).length))] [none, none, some (.row 1 [vi y12]), some (.row 1 (List.map vi (v8 ++ ([y12] : List Int)))), none, none, none, none, none, none, none, none, none, none, none, none, none, none, some (.row 1 [vi ((a0 * (ix a1 v11)) - ((ix (v8 ++ ([y12] : List Int)) v11) * v6))]), some (.row 1 (List.map vi (v9 ++ ([(a0 * (ix a1 v11)) - ((ix (v8 ++ ([y12] : List Int)) v11) * v6)] : List Int)))), none] (by kernel_rfl) ?_
      refine RegD.done rfl (by kernel_rfl) (S' := ⟨[(0, vi a0), (1, eS 1 vi a1), (6, vi v6), (10, vi v10), (11, vi v11), (8, .own 0 0 ((v8 ++ ([y12] : List Int)).length)), (9, .own 1 0 ((v9 ++ ([(a0 * (ix a1 v11)) - ((ix (v8 ++ ([y12] : List Int)) v11) * v6)] : List Int)).length))], [some (.row 1 (List.map vi (v8 ++ ([y12] : List Int)))), some (.row 1 (List.map vi (v9 ++ ([(a0 * (ix a1 v11)) - ((ix (v8 ++ ([y12] : List Int)) v11) * v6)] : List Int))))]⟩) (sc [3, 19] (by decide) (by kernel_rfl) (obRen_row vi_frz rfl (obRen_row vi_frz rfl .nil)) rfl rfl) ?_
      refine TriE.regJ ?_
      refine rn 3 [(0, vi a0), (1, eS 1 vi a1), (6, vi v6), (11, vi v11), (8, .own 0 0 ((v8 ++ ([y12] : List Int)).length)), (9, .own 1 0 ((v9 ++ ([(a0 * (ix a1 v11)) - ((ix (v8 ++ ([y12] : List Int)) v11) * v6)] : List Int)).length)), (77, vi v10), (78, .own 0 0 ((v8 ++ ([y12] : List Int)).length)), (79, vi v11)] [some (.row 1 (List.map vi (v8 ++ ([y12] : List Int)))), some (.row 1 (List.map vi (v9 ++ ([(a0 * (ix a1 v11)) - ((ix (v8 ++ ([y12] : List Int)) v11) * v6)] : List Int))))] ?_
      refine jv (.ptr 0 v11 0) (cy (I0 80 (.iaddr 1 (.t 78) (.t 79)))) (ok_iaddr_o0 (j := v11) rfl rfl rfl rfl c12) rfl ?_
      refine jv (vi (ix (v8 ++ ([y12] : List Int)) v11)) (cy (I0 81 (.load false 1 (.t 80)))) (ok_load_pm (l := (v8 ++ ([y12] : List Int))) (e := vi) (v := vi (ix (v8 ++ ([y12] : List Int)) v11)) rfl rfl c13 rfl) rfl ?_
      obtain ⟨c17, h⟩ := chk_some h
      refine jv (vi (v10 - (ix (v8 ++ ([y12] : List Int)) v11))) (cy (I0 82 (.bin .sub false (.t 77) (.t 81)))) (r_sub rfl rfl c17) rfl ?_
      refine jq 1 [(0, vi a0), (1, eS 1 vi a1), (6, vi v6), (11, vi v11), (8, .own 0 0 ((v8 ++ ([y12] : List Int)).length)), (9, .own 1 0 ((v9 ++ ([(a0 * (ix a1 v11)) - ((ix (v8 ++ ([y12] : List Int)) v11) * v6)] : List Int)).length)), (10, vi (v10 - (ix (v8 ++ ([y12] : List Int)) v11)))] [some (.row 1 (List.map vi (v8 ++ ([y12] : List Int)))), some (.row 1 (List.map vi (v9 ++ ([(a0 * (ix a1 v11)) - ((ix (v8 ++ ([y12] : List Int)) v11) * v6)] : List Int))))] ?_
      refine TriE.regJ ?_
      refine rn 1 [(0, vi a0), (1, eS 1 vi a1), (6, vi v6), (8, .own 0 0 ((v8 ++ ([y12] : List Int)).length)), (9, .own 1 0 ((v9 ++ ([(a0 * (ix a1 v11)) - ((ix (v8 ++ ([y12] : List Int)) v11) * v6)] : List Int)).length)), (10, vi (v10 - (ix (v8 ++ ([y12] : List Int)) v11))), (48, vi v11)] [some (.row 1 (List.map vi (v8 ++ ([y12] : List Int)))), some (.row 1 (List.map vi (v9 ++ ([(a0 * (ix a1 v11)) - ((ix (v8 ++ ([y12] : List Int)) v11) * v6)] : List Int))))] ?_
      obtain ⟨c18, h⟩ := chk_some h
      refine jv (vi ((v11 + 1 : Nat) : Int)) (cy (I0 49 (.bin .add false (.t 48) (.c (.p (.int .i64 1)))))) (r_addn (i := v11) (j := 1) rfl rfl c18) rfl ?_
      refine jq 1 [(0, vi a0), (1, eS 1 vi a1), (6, vi v6), (8, .own 0 0 ((v8 ++ ([y12] : List Int)).length)), (9, .own 1 0 ((v9 ++ ([(a0 * (ix a1 v11)) - ((ix (v8 ++ ([y12] : List Int)) v11) * v6)] : List Int)).length)), (10, vi (v10 - (ix (v8 ++ ([y12] : List Int)) v11))), (11, vi ((v11 + 1 : Nat) : Int))] [some (.row 1 (List.map vi (v8 ++ ([y12] : List Int)))), some (.row 1 (List.map vi (v9 ++ ([(a0 * (ix a1 v11)) - ((ix (v8 ++ ([y12] : List Int)) v11) * v6)] : List Int))))] ?_
      exact Vs.intro sy ⟨((v8 ++ ([y12] : List Int)), (v9 ++ ([(a0 * (ix a1 v11)) - ((ix (v8 ++ ([y12] : List Int)) v11) * v6)] : List Int)), v10 - (ix (v8 ++ ([y12] : List Int)) v11), v11 + 1), rfl, h⟩
    have h := cond_f h c9
    refine TriE.exit ?_
    exact Vs.intro sy ⟨(v10, v9, v8), rfl, h⟩
  intro k1 h
  refine sr [(0, vi a0), (1, eS 1 vi a1), (6, vi 0), (7, vi 0)] [] ?_
  refine TriE.block ?_
  refine TriE.sees (S' := ⟨[(0, vi a0), (1, eS 1 vi a1), (6, vi 0), (7, vi 0)], []⟩) sy ?_
  refine TriE.loopN h (fun (t : Int × Nat) => match t with | (v3, v4) => St.mk [(0, vi a0), (1, eS 1 vi a1), (6, vi v3), (7, vi v4)] []) rfl ?_
  clear h
  rintro back ⟨v3, v4⟩ h
  dsimp only [agrafferef08_Split_L1] at h
  refine TriE.seq ?_
  refine sj ?_
  refine rn 2 [(0, vi a0), (1, eS 1 vi a1), (6, vi v3), (7, vi v4), (23, vi v4), (24, eS 1 vi a1)] [] ?_
  refine jv (vi (a1.length : Int)) (cy (I0 25 (.len 0 (.t 24)))) (ok_len_m rfl) rfl ?_
  refine jv (vb (decide (v4 < a1.length))) (cy (I0 26 (.bin .lss false (.t 23) (.t 25)))) (n_lss (i := v4) (j := a1.length) rfl rfl) rfl ?_
  refine jp [(0, vi a0), (1, eS 1 vi a1), (6, vi v3), (7, vi v4), (26, vb (decide (v4 < a1.length)))] ?_
  refine TriE.cond (b := decide (v4 < a1.length)) rfl (fun c4 => ?_) (fun c4 => ?_)
  · have h := cond_t h c4
    refine TriE.skip ?_
    refine TriE.seq ?_
    refine TriE.block ?_
    refine TriE.seq ?_
    refine sj ?_
    refine rn 2 [(0, vi a0), (1, eS 1 vi a1), (6, vi v3), (7, vi v4), (29, eS 1 vi a1), (30, vi v4)] [] ?_
    refine jv (.fptr 1 (List.map vi a1) v4 0) (cy (I0 31 (.iaddr 1 (.t 29) (.t 30)))) (ok_iaddr_m (j := v4) rfl rfl rfl c4) rfl ?_
    refine jv (vi (ix a1 v4)) (cy (I0 32 (.load false 1 (.t 31)))) (ok_load_fm (v := vi (ix a1 v4)) rfl c4 rfl) rfl ?_
    obtain ⟨y5, hy5, h⟩ := bind_some h
    refine RegJ.op (Op1.call (y' := vb ((decide (0 ≤ (ix a1 v4))) && (decide ((ix a1 v4) ≤ 1000000)))) (obx := []) (oby := []) (ob2 := []) _ _ (cy (I0 33 (.call 9 [(.t 32), (.c (.p (.int .i64 0))), (.c (.p (.int .i64 1000000)))]))) rfl (agraffebase_Within_ok n (ix a1 v4) 0 1000000 y5 hy5) [] (by kernel_rfl) (.cons rfl (.cons rfl (.cons rfl (.cons rfl .nil)))) (by kernel_rfl) (by kernel_rfl) ObsRen.nil (by kernel_rfl) ObsRen.nil (by kernel_rfl)) ?_
    refine jq 1 [(0, vi a0), (1, eS 1 vi a1), (6, vi v3), (7, vi v4), (34, vb (!((decide (0 ≤ (ix a1 v4))) && (decide ((ix a1 v4) ≤ 1000000)))))] [] ?_
    refine TriE.cond (b := !((decide (0 ≤ (ix a1 v4))) && (decide ((ix a1 v4) ≤ 1000000)))) rfl (fun c5 => ?_) (fun c5 => ?_)
    · have h := cond_t h c5
      refine sr [(4, .emp), (5, vi 2)] [] ?_
      refine TriE.ret ?_
      have h := Option.some.inj h
      subst h
      exact DoneS.ret (S' := ⟨[(4, eS 1 vi ([] : List Int)), (5, vi 2)], []⟩) (Sees.trans (Sees.vco (fr' := [(4, eS 1 vi ([] : List Int)), (5, vi 2)]) (.cons .sl (.cons .same .nil))) sy) rfl rfl
    have h := cond_f h c5
    refine TriE.skip ?_
    refine TriE.regJ ?_
    refine rn 3 [(0, vi a0), (1, eS 1 vi a1), (7, vi v4), (35, vi v3), (36, eS 1 vi a1), (37, vi v4)] [] ?_
    refine jv (.fptr 1 (List.map vi a1) v4 0) (cy (I0 38 (.iaddr 1 (.t 36) (.t 37)))) (ok_iaddr_m (j := v4) rfl rfl rfl c4) rfl ?_
    refine jv (vi (ix a1 v4)) (cy (I0 39 (.load false 1 (.t 38)))) (ok_load_fm (v := vi (ix a1 v4)) rfl c4 rfl) rfl ?_
    obtain ⟨c6, h⟩ := chk_some h
    refine jv (vi (v3 + (ix a1 v4))) (cy (I0 40 (.bin .add false (.t 35) (.t 39)))) (r_add rfl rfl c6) rfl ?_
    refine jq 1 [(0, vi a0), (1, eS 1 vi a1), (7, vi v4), (6, vi (v3 + (ix a1 v4)))] [] ?_
    refine TriE.regJ ?_
    refine rn 1 [(0, vi a0), (1, eS 1 vi a1), (6, vi (v3 + (ix a1 v4))), (27, vi v4)] [] ?_
    obtain ⟨c7, h⟩ := chk_some h
    refine jv (vi ((v4 + 1 : Nat) : Int)) (cy (I0 28 (.bin .add false (.t 27) (.c (.p (.int .i64 1)))))) (r_addn (i := v4) (j := 1) rfl rfl c7) rfl ?_
    refine jq 1 [(0, vi a0), (1, eS 1 vi a1), (6, vi (v3 + (ix a1 v4))), (7, vi ((v4 + 1 : Nat) : Int))] [] ?_
    exact Vs.intro sy ⟨(v3 + (ix a1 v4), v4 + 1), rfl, h⟩
  have h := cond_f h c4
  refine TriE.exit ?_
  exact Vs.intro sy ⟨v3, rfl, h⟩
theorem agraffebase_Ints_ok (n : Nat) (a0 : List Int) (a1 : List Int) (r : Bool) (h : agraffebase_Ints n a0 a1 = some r) : FnL Try.prog 8 [eS 1 vi a0, eS 1 vi a1] [] (vb r) [] := by
  dsimp only [agraffebase_Ints] at h
  refine FnL.ofS (ts := [4]) Try.call8 Try.func8 rfl rfl (Nat.le_of_ble_eq_true rfl) (Nat.le_of_ble_eq_true rfl) (fun j h => absurd h (Nat.not_lt_zero j)) ?_
  refine sr [(0, eS 1 vi a0), (1, eS 1 vi a1)] [] ?_
  refine TriE.seq ?_
  refine sj ?_
  refine rn 1 [(0, eS 1 vi a0), (1, eS 1 vi a1), (6, eS 1 vi a0)] [] ?_
  refine jv (vi (a0.length : Int)) (cy (I0 7 (.len 0 (.t 6)))) (ok_len_m rfl) rfl ?_
  refine rn 1 [(0, eS 1 vi a0), (1, eS 1 vi a1), (7, vi (a0.length : Int)), (8, eS 1 vi a1)] [] ?_
  refine jv (vi (a1.length : Int)) (cy (I0 9 (.len 0 (.t 8)))) (ok_len_m rfl) rfl ?_
  refine jv (vb (!decide (a0.length = a1.length))) (cy (I0 10 (.bin .neq false (.t 7) (.t 9)))) (n_neq (i := a0.length) (j := a1.length) rfl rfl) rfl ?_
  refine jp [(0, eS 1 vi a0), (1, eS 1 vi a1), (10, vb (!decide (a0.length = a1.length)))] ?_
  refine TriE.cond (b := !decide (a0.length = a1.length)) rfl (fun c1 => ?_) (fun c1 => ?_)
  · have h := cond_t h c1
    refine sr [(4, vb false)] [] ?_
    refine TriE.ret ?_
    have h := Option.some.inj h
    subst h
    exact DoneS.ret (S' := ⟨[(4, vb false)], []⟩) Sees.refl rfl rfl
  have h := cond_f h c1
  refine TriE.skip ?_
  refine TriE.seqK h (fun (_ : Unit) => St.mk [] []) ?_ ?_
  · rintro ⟨⟩ h
    refine sr [(4, vb true)] [] ?_
    refine TriE.ret ?_
    have h := Option.some.inj h
    subst h
    exact DoneS.ret (S' := ⟨[(4, vb true)], []⟩) Sees.refl rfl rfl
  intro k1 h
  refine sr [(0, eS 1 vi a0), (1, eS 1 vi a1), (5, vi 0)] [] ?_
  refine TriE.block ?_
  refine TriE.sees (S' := ⟨[(0, eS 1 vi a0), (1, eS 1 vi a1), (5, vi 0)], []⟩) sy ?_
  refine TriE.loopN h (fun (v1 : Nat) => St.mk [(0, eS 1 vi a0), (1, eS 1 vi a1), (5, vi v1)] []) rfl ?_
  clear h
  rintro back v1 h
  dsimp only [agraffebase_Ints_L1] at h
  refine TriE.seq ?_
  refine sj ?_
  refine rn 2 [(0, eS 1 vi a0), (1, eS 1 vi a1), (5, vi v1), (11, vi v1), (12, eS 1 vi a0)] [] ?_
  refine jv (vi (a0.length : Int)) (cy (I0 13 (.len 0 (.t 12)))) (ok_len_m rfl) rfl ?_
  refine jv (vb (decide (v1 < a0.length))) (cy (I0 14 (.bin .lss false (.t 11) (.t 13)))) (n_lss (i := v1) (j := a0.length) rfl rfl) rfl ?_
  refine jp [(0, eS 1 vi a0), (1, eS 1 vi a1), (5, vi v1), (14, vb (decide (v1 < a0.length)))] ?_
  refine TriE.cond (b := decide (v1 < a0.length)) rfl (fun c2 => ?_) (fun c2 => ?_)
  · have h := cond_t h c2
    refine TriE.skip ?_
    refine TriE.seq ?_
    refine TriE.block ?_
    refine TriE.seq ?_
    refine TriE.sees (Sees.less (fr' := [(0, eS 1 vi a0), (1, eS 1 vi a1), (5, vi v1)]) (.cons rfl (.cons rfl (.cons rfl .nil)))) ?_
    refine TriE.draw (by kernel_rfl) ?_
    refine RegD.run 2 [(18, vi v1), (17, eS 1 vi a0), (0, eS 1 vi a0), (1, eS 1 vi a1), (5, vi v1)] [none, none] (by kernel_rfl) ?_
    refine dv (.fptr 1 (List.map vi a0) v1 0) (cy (I0 19 (.iaddr 1 (.t 17) (.t 18)))) (ok_iaddr_m (j := v1) rfl rfl rfl c2) rfl ?_
    refine dv (vi (ix a0 v1)) (cy (I0 20 (.load false 1 (.t 19)))) (ok_load_fm (v := vi (ix a0 v1)) rfl c2 rfl) rfl ?_
    refine RegD.run 2 [(22, vi v1), (21, eS 1 vi a1), (20, vi (ix a0 v1)), (19, .fptr 1 (List.map vi a0) v1 0), (18, vi v1), (17, eS 1 vi a0), (0, eS 1 vi a0), (1, eS 1 vi a1), (5, vi v1)] [none, none, none, none, none, none] (by kernel_rfl) ?_
    obtain ⟨c3, h⟩ := chk_some h
    refine dv (.fptr 1 (List.map vi a1) v1 0) (cy (I0 23 (.iaddr 1 (.t 21) (.t 22)))) (ok_iaddr_m (j := v1) rfl rfl rfl c3) rfl ?_
    refine dv (vi (ix a1 v1)) (cy (I0 24 (.load false 1 (.t 23)))) (ok_load_fm (v := vi (ix a1 v1)) rfl c3 rfl) rfl ?_
    refine RegD.run 1 [(25, vb ((ix a0 v1) != (ix a1 v1))), (24, vi (ix a1 v1)), (23, .fptr 1 (List.map vi a1) v1 0), (22, vi v1), (21, eS 1 vi a1), (20, vi (ix a0 v1)), (19, .fptr 1 (List.map vi a0) v1 0), (18, vi v1), (17, eS 1 vi a0), (0, eS 1 vi a0), (1, eS 1 vi a1), (5, vi v1)] [none, none, none, none, none, none, none, none, none] (by kernel_rfl) ?_
    refine RegD.done rfl (by kernel_rfl) (S' := ⟨[(0, eS 1 vi a0), (1, eS 1 vi a1), (5, vi v1), (25, vb ((ix a0 v1) != (ix a1 v1)))], []⟩) (sc [] (by decide) (by kernel_rfl) ObRen.nil rfl rfl) ?_
    refine TriE.cond (b := ((ix a0 v1) != (ix a1 v1))) rfl (fun c4 => ?_) (fun c4 => ?_)
    · have h := cond_t h c4
      refine sr [(4, vb false)] [] ?_
      refine TriE.ret ?_
      have h := Option.some.inj h
      subst h
      exact DoneS.ret (S' := ⟨[(4, vb false)], []⟩) Sees.refl rfl rfl
    have h := cond_f h c4
    refine TriE.skip ?_
    refine TriE.regJ ?_
    refine rn 1 [(0, eS 1 vi a0), (1, eS 1 vi a1), (15, vi v1)] [] ?_
    obtain ⟨c5, h⟩ := chk_some h
    refine jv (vi ((v1 + 1 : Nat) : Int)) (cy (I0 16 (.bin .add false (.t 15) (.c (.p (.int .i64 1)))))) (r_addn (i := v1) (j := 1) rfl rfl c5) rfl ?_
    refine jq 1 [(0, eS 1 vi a0), (1, eS 1 vi a1), (5, vi ((v1 + 1 : Nat) : Int))] [] ?_
    exact Vs.intro sy ⟨(v1 + 1), rfl, h⟩
  have h := cond_f h c2
  refine TriE.exit ?_
  exact Vs.intro sy ⟨(), rfl, h⟩
theorem agraffelaw08_RestoreSplits_ok (n : Nat) (a0 : Int) (a1 : List Int) (r : Bool) (h : agraffelaw08_RestoreSplits n a0 a1 = some r) : FnL Try.prog 3 [vi a0, eS 1 vi a1] [] (vb r) [] := by
  dsimp only [agraffelaw08_RestoreSplits] at h
  refine FnL.ofS (ts := [4]) Try.call3 Try.func3 rfl rfl (Nat.le_of_ble_eq_true rfl) (Nat.le_of_ble_eq_true rfl) (fun j h => absurd h (Nat.not_lt_zero j)) ?_
  refine sr [(0, vi a0), (1, eS 1 vi a1)] [] ?_
  refine TriE.seq ?_
  refine sj ?_
  obtain ⟨y1, hy1, h⟩ := bind_some h
  refine RegJ.op (Op1.call (y' := vb y1) (obx := []) (oby := []) (ob2 := []) _ _ (cy (I0 12 (.call 4 []))) rfl (agraffelaw08_awake_ok n y1 hy1) [] (by kernel_rfl) (.cons rfl .nil) (by kernel_rfl) (by kernel_rfl) ObsRen.nil (by kernel_rfl) ObsRen.nil (by kernel_rfl)) ?_
  refine jq 1 [(0, vi a0), (1, eS 1 vi a1), (13, vb (!y1))] [] ?_
  refine TriE.cond (b := !y1) rfl (fun c1 => ?_) (fun c1 => ?_)
  · have h := cond_t h c1
    refine sr [(4, vb false)] [] ?_
    refine TriE.ret ?_
    have h := Option.some.inj h
    subst h
    exact DoneS.ret (S' := ⟨[(4, vb false)], []⟩) Sees.refl rfl rfl
  have h := cond_f h c1
  refine TriE.skip ?_
  refine TriE.seq ?_
  refine sj ?_
  refine rn 1 [(0, vi a0), (1, eS 1 vi a1), (14, eS 1 vi a1)] [] ?_
  refine jv (vi (a1.length : Int)) (cy (I0 15 (.len 0 (.t 14)))) (ok_len_m rfl) rfl ?_
  refine jv (vb (decide (65 < a1.length))) (cy (I0 16 (.bin .gtr false (.t 15) (.c (.p (.int .i64 65)))))) (n_gtr (i := a1.length) (j := 65) rfl rfl) rfl ?_
  refine jp [(0, vi a0), (1, eS 1 vi a1), (16, vb (decide (65 < a1.length)))] ?_
  refine TriE.cond (b := decide (65 < a1.length)) rfl (fun c2 => ?_) (fun c2 => ?_)
  · have h := cond_t h c2
    refine sr [(4, vb true)] [] ?_
    refine TriE.ret ?_
    have h := Option.some.inj h
    subst h
    exact DoneS.ret (S' := ⟨[(4, vb true)], []⟩) Sees.refl rfl rfl
  have h := cond_f h c2
  refine TriE.skip ?_
  refine sj ?_
  refine rn 2 [(0, vi a0), (1, eS 1 vi a1), (18, vi a0), (19, eS 1 vi a1)] [] ?_
  obtain ⟨y2, hy2, h⟩ := bind_some h
  refine RegJ.op (Op1.call (y' := .own 0 0 a1.length) (obx := []) (oby := [some (.row 1 (List.map vi a1))]) (ob2 := [some (.row 1 (List.map vi a1))]) _ _ (cy (I0 20 (.call 6 [(.t 19)]))) rfl (agraffebase_CopyInts_ok n a1 y2 hy2) [] (by kernel_rfl) (.cons rfl (.cons rfl .nil)) (by kernel_rfl) (by kernel_rfl) ObsRen.nil (by kernel_rfl) (.same (row_ren vi_frz _ _ _) .nil) (by kernel_rfl)) ?_
  refine RegJ.sees (Sees.freeze 0 (fr' := [(0, vi a0), (1, eS 1 vi a1), (18, vi a0), (19, eS 1 vi a1), (20, eS 1 vi a1)]) (ob' := [none]) rfl (frz_row vi_frzE _) (.cons (.refl _) (.cons (.refl _) (.cons (.refl _) (.cons (.refl _) (.cons (frz_full rfl) .nil))))) rfl) ?_
  obtain ⟨y3, hy3, h⟩ := bind_some h
  refine RegJ.op (Op1.call (y' := .tup [eS 1 vi y3.2, vi y3.1]) (obx := []) (oby := []) (ob2 := [none]) _ _ (cy (I0 21 (.call 5 [(.t 18), (.t 20)]))) rfl (restore_Split_ok n a0 a1 y3 hy3) [] (by kernel_rfl) (.cons rfl (.cons rfl (.cons rfl .nil))) (by kernel_rfl) (by kernel_rfl) ObsRen.nil (by kernel_rfl) ObsRen.nil (by kernel_rfl)) ?_
  refine jq 5 [(0, vi a0), (1, eS 1 vi a1), (5, eS 1 vi y3.2), (6, vi y3.1)] [none] ?_
  refine sj ?_
  refine rn 2 [(0, vi a0), (1, eS 1 vi a1), (5, eS 1 vi y3.2), (6, vi y3.1), (25, vi a0), (26, eS 1 vi a1)] [none] ?_
  obtain ⟨y4, hy4, h⟩ := bind_some h
  refine RegJ.op (Op1.call (y' := .tup [eS 1 vi y4.2, vi y4.1]) (obx := []) (oby := []) (ob2 := [none]) _ _ (cy (I0 27 (.call 7 [(.t 25), (.t 26)]))) rfl (agrafferef08_Split_ok n a0 a1 y4 hy4) [] (by kernel_rfl) (.cons rfl (.cons rfl (.cons rfl .nil))) (by kernel_rfl) (by kernel_rfl) ObsRen.nil (by kernel_rfl) ObsRen.nil (by kernel_rfl)) ?_
  refine jq 5 [(0, vi a0), (1, eS 1 vi a1), (5, eS 1 vi y3.2), (6, vi y3.1), (7, eS 1 vi y4.2), (8, vi y4.1)] [none] ?_
  refine TriE.seq ?_
  refine sj ?_
  refine rn 4 [(0, vi a0), (1, eS 1 vi a1), (5, eS 1 vi y3.2), (7, eS 1 vi y4.2), (8, vi y4.1), (33, vb (y3.1 != y4.1))] [none] ?_
  refine RegJ.op (Op1.valk (v := eS 1 vi y3.2) _ _ (cy (IG 34 (.mov (.t 5)) 33 false)) rfl (by kernel_rfl) (fun hg => (.cons rfl .nil))) ?_
  refine RegJ.op (Op1.valk (v := eS 1 vi y4.2) _ _ (cy (IG 35 (.mov (.t 7)) 33 false)) rfl (by kernel_rfl) (fun hg => (.cons rfl .nil))) ?_
  obtain ⟨y5, hy5, h⟩ := bind_some h
  refine RegJ.op (Op1.callg (g := !(y3.1 != y4.1)) (y' := vb y5) (obx := []) _ _ (cy (IG 36 (.call 8 [(.t 34), (.t 35)]) 33 false)) rfl (fun hg => agraffebase_Ints_ok n y3.2 y4.2 y5 (gcall_some hy5 hg)) [] (fun hg => by kernel_rfl) (fun hg => (.cons rfl (.cons hg (.cons hg .nil)))) (by kernel_rfl) (by kernel_rfl) ObsRen.nil (by kernel_rfl) (by kernel_rfl)) ?_
  refine RegJ.op (Op1.valk (v := vb (!y5)) _ _ (cy (IG 37 (.un .not (.t 36)) 33 false)) rfl (by kernel_rfl) (fun hg => (.cons hg .nil))) ?_
  refine RegJ.op (Op1.or (cy (I0 38 (.pick (.t 33) (.c (.p (.bool true))) (.t 37)))) rfl rfl (by first | exact hokO1 | exact hokO0 | simp)) ?_
  refine jp [(0, vi a0), (1, eS 1 vi a1), (5, eS 1 vi y3.2), (8, vi y4.1), (38, vb ((y3.1 != y4.1) || (!y5)))] ?_
  refine TriE.cond (b := (y3.1 != y4.1) || (!y5)) rfl (fun c3 => ?_) (fun c3 => ?_)
  · have h := cond_t h c3
    refine sr [(4, vb false)] [none] ?_
    refine TriE.ret ?_
    have h := Option.some.inj h
    subst h
    exact DoneS.ret (S' := ⟨[(4, vb false)], []⟩) (sc [] (by decide) (by kernel_rfl) ObRen.nil rfl rfl) rfl rfl
  have h := cond_f h c3
  refine TriE.skip ?_
  refine TriE.seq ?_
  refine sr [(0, vi a0), (1, eS 1 vi a1), (5, eS 1 vi y3.2), (40, vb (y4.1 != (0 : Int)))] [none] ?_
  refine TriE.cond (b := (y4.1 != (0 : Int))) rfl (fun c4 => ?_) (fun c4 => ?_)
  · have h := cond_t h c4
    refine sr [(4, vb true)] [none] ?_
    refine TriE.ret ?_
    have h := Option.some.inj h
    subst h
    exact DoneS.ret (S' := ⟨[(4, vb true)], []⟩) (sc [] (by decide) (by kernel_rfl) ObRen.nil rfl rfl) rfl rfl
  have h := cond_f h c4
  refine TriE.skip ?_
  refine sr [(0, vi a0), (1, eS 1 vi a1), (5, eS 1 vi y3.2), (9, vi 0)] [none] ?_
  refine TriE.seqK h (fun (v11 : Int) => St.mk [(0, vi a0), (9, vi v11)] []) ?_ ?_
  · rintro v11 h
    refine sr [(4, vb (v11 == a0))] [] ?_
    refine TriE.ret ?_
    have h := Option.some.inj h
    subst h
    exact DoneS.ret (S' := ⟨[(4, vb (v11 == a0))], []⟩) Sees.refl rfl rfl
  intro k2 h
  refine sr [(0, vi a0), (1, eS 1 vi a1), (5, eS 1 vi y3.2), (9, vi 0), (10, vi 0)] [none] ?_
  refine TriE.block ?_
  refine TriE.sees (S' := ⟨[(0, vi a0), (1, eS 1 vi a1), (5, eS 1 vi y3.2), (9, vi 0), (10, vi 0)], []⟩) (sc [] (by decide) (by kernel_rfl) ObRen.nil rfl rfl) ?_
  refine TriE.loopN h (fun (t : Int × Nat) => match t with | (v6, v7) => St.mk [(0, vi a0), (1, eS 1 vi a1), (5, eS 1 vi y3.2), (9, vi v6), (10, vi v7)] []) rfl ?_
  clear h
  rintro back ⟨v6, v7⟩ h
  dsimp only [agraffelaw08_RestoreSplits_L2] at h
  refine TriE.seq ?_
  refine sj ?_
  refine rn 2 [(0, vi a0), (1, eS 1 vi a1), (5, eS 1 vi y3.2), (9, vi v6), (10, vi v7), (41, vi v7), (42, eS 1 vi y3.2)] [] ?_
  refine jv (vi ((y3.2.length : Nat) : Int)) (cy (I0 43 (.len 0 (.t 42)))) (ok_len_m rfl) rfl ?_
  refine jv (vb (decide (v7 < y3.2.length))) (cy (I0 44 (.bin .lss false (.t 41) (.t 43)))) (n_lss (i := v7) (j := y3.2.length) rfl rfl) rfl ?_
  refine jp [(0, vi a0), (1, eS 1 vi a1), (5, eS 1 vi y3.2), (9, vi v6), (10, vi v7), (44, vb (decide (v7 < y3.2.length)))] ?_
  refine TriE.cond (b := decide (v7 < y3.2.length)) rfl (fun c5 => ?_) (fun c5 => ?_)
  · have h := cond_t h c5
    refine TriE.skip ?_
    refine TriE.seqK h (fun (_ : Unit) => St.mk [(0, vi a0), (1, eS 1 vi a1), (5, eS 1 vi y3.2), (10, vi v7), (9, vi (v6 + (ix y3.2 v7)))] []) ?_ ?_
    · rintro ⟨⟩ h
      refine TriE.regJ ?_
      refine rn 1 [(0, vi a0), (1, eS 1 vi a1), (5, eS 1 vi y3.2), (9, vi (v6 + (ix y3.2 v7))), (45, vi v7)] [] ?_
      obtain ⟨c15, h⟩ := chk_some h
      refine jv (vi ((v7 + 1 : Nat) : Int)) (cy (I0 46 (.bin .add false (.t 45) (.c (.p (.int .i64 1)))))) (r_addn (i := v7) (j := 1) rfl rfl c15) rfl ?_
      refine jq 1 [(0, vi a0), (1, eS 1 vi a1), (5, eS 1 vi y3.2), (9, vi (v6 + (ix y3.2 v7))), (10, vi ((v7 + 1 : Nat) : Int))] [] ?_
      exact Vs.intro sy ⟨(v6 + (ix y3.2 v7), v7 + 1), rfl, h⟩
    intro k1 h
    refine TriE.block ?_
    refine sj ?_
    refine rn 3 [(0, vi a0), (1, eS 1 vi a1), (5, eS 1 vi y3.2), (10, vi v7), (47, vi v6), (48, eS 1 vi y3.2), (49, vi v7)] [] ?_
    refine jv (.fptr 1 (List.map vi y3.2) v7 0) (cy (I0 50 (.iaddr 1 (.t 48) (.t 49)))) (ok_iaddr_m (j := v7) rfl rfl rfl c5) rfl ?_
    refine jv (vi (ix y3.2 v7)) (cy (I0 51 (.load false 1 (.t 50)))) (ok_load_fm (v := vi (ix y3.2 v7)) rfl c5 rfl) rfl ?_
    obtain ⟨c6, h⟩ := chk_some h
    refine jv (vi (v6 + (ix y3.2 v7))) (cy (I0 52 (.bin .add false (.t 47) (.t 51)))) (r_add rfl rfl c6) rfl ?_
    refine jq 1 [(0, vi a0), (1, eS 1 vi a1), (5, eS 1 vi y3.2), (10, vi v7), (9, vi (v6 + (ix y3.2 v7)))] [] ?_
    refine sr [(0, vi a0), (1, eS 1 vi a1), (5, eS 1 vi y3.2), (10, vi v7), (9, vi (v6 + (ix y3.2 v7))), (11, vi 0)] [] ?_
    refine TriE.block ?_
    refine TriE.sees (S' := ⟨[(0, vi a0), (1, eS 1 vi a1), (5, eS 1 vi y3.2), (10, vi v7), (9, vi (v6 + (ix y3.2 v7))), (11, vi 0)], []⟩) sy ?_
    refine TriE.loopN h (fun (v9 : Nat) => St.mk [(0, vi a0), (1, eS 1 vi a1), (5, eS 1 vi y3.2), (10, vi v7), (9, vi (v6 + (ix y3.2 v7))), (11, vi v9)] []) rfl ?_
    clear h
    rintro back v9 h
    dsimp only [agraffelaw08_RestoreSplits_L1] at h
    refine TriE.seq ?_
    refine sj ?_
    refine rn 2 [(0, vi a0), (1, eS 1 vi a1), (5, eS 1 vi y3.2), (10, vi v7), (9, vi (v6 + (ix y3.2 v7))), (11, vi v9), (53, vi v9), (54, vi v7)] [] ?_
    refine jv (vb (decide (v9 < v7))) (cy (I0 55 (.bin .lss false (.t 53) (.t 54)))) (n_lss (i := v9) (j := v7) rfl rfl) rfl ?_
    refine jp [(0, vi a0), (1, eS 1 vi a1), (5, eS 1 vi y3.2), (10, vi v7), (9, vi (v6 + (ix y3.2 v7))), (11, vi v9), (55, vb (decide (v9 < v7)))] ?_
    refine TriE.cond (b := decide (v9 < v7)) rfl (fun c7 => ?_) (fun c7 => ?_)
    · have h := cond_t h c7
      refine TriE.skip ?_
      refine TriE.seq ?_
      refine TriE.block ?_
      refine TriE.seq ?_
      refine TriE.sees (Sees.less (fr' := [(0, vi a0), (1, eS 1 vi a1), (5, eS 1 vi y3.2), (10, vi v7), (9, vi (v6 + (ix y3.2 v7))), (11, vi v9)]) (.cons rfl (.cons rfl (.cons rfl (.cons rfl (.cons rfl (.cons rfl .nil))))))) ?_
      refine TriE.draw (by kernel_rfl) ?_
      refine RegD.run 2 [(59, vi v9), (58, eS 1 vi a1), (0, vi a0), (1, eS 1 vi a1), (5, eS 1 vi y3.2), (10, vi v7), (9, vi (v6 + (ix y3.2 v7))), (11, vi v9)] [none, none] (by kernel_rfl) ?_
      obtain ⟨c8, h⟩ := chk_some h
      refine dv (.fptr 1 (List.map vi a1) v9 0) (cy (I0 60 (.iaddr 1 (.t 58) (.t 59)))) (ok_iaddr_m (j := v9) rfl rfl rfl c8) rfl ?_
      refine dv (vi (ix a1 v9)) (cy (I0 61 (.load false 1 (.t 60)))) (ok_load_fm (v := vi (ix a1 v9)) rfl c8 rfl) rfl ?_
      refine RegD.run 2 [(63, vi v7), (62, eS 1 vi a1), (61, vi (ix a1 v9)), (60, .fptr 1 (List.map vi a1) v9 0), (59, vi v9), (58, eS 1 vi a1), (0, vi a0), (1, eS 1 vi a1), (5, eS 1 vi y3.2), (10, vi v7), (9, vi (v6 + (ix y3.2 v7))), (11, vi v9)] [none, none, none, none, none, none] (by kernel_rfl) ?_
      obtain ⟨c9, h⟩ := chk_some h
      refine dv (.fptr 1 (List.map vi a1) v7 0) (cy (I0 64 (.iaddr 1 (.t 62) (.t 63)))) (ok_iaddr_m (j := v7) rfl rfl rfl c9) rfl ?_
      refine dv (vi (ix a1 v7)) (cy (I0 65 (.load false 1 (.t 64)))) (ok_load_fm (v := vi (ix a1 v7)) rfl c9 rfl) rfl ?_
      refine RegD.run 2 [(67, vb ((ix a1 v9) == (ix a1 v7))), (66, vb ((ix a1 v9) == (ix a1 v7))), (65, vi (ix a1 v7)), (64, .fptr 1 (List.map vi a1) v7 0), (63, vi v7), (62, eS 1 vi a1), (61, vi (ix a1 v9)), (60, .fptr 1 (List.map vi a1) v9 0), (59, vi v9), (58, eS 1 vi a1), (0, vi a0), (1, eS 1 vi a1), (5, eS 1 vi y3.2), (10, vi v7), (9, vi (v6 + (ix y3.2 v7))), (11, vi v9)] [none, none, none, none, none, none, none, none, none, none] (by kernel_rfl) ?_
      refine RegD.op (OpD.valk (g := ((ix a1 v9) == (ix a1 v7))) (v := eS 1 vi y3.2) _ _ (cy (IG 68 (.mov (.t 5)) 67 true)) rfl (by kernel_rfl) (fun hg => (.cons rfl .nil))) ?_
      refine RegD.op (OpD.valk (g := ((ix a1 v9) == (ix a1 v7))) (v := vi v9) _ _ (cy (IG 69 (.mov (.t 11)) 67 true)) rfl (by kernel_rfl) (fun hg => (.cons rfl .nil))) ?_
      obtain ⟨c10, h⟩ := chk_some h
      refine RegD.op (OpD.valg (g := ((ix a1 v9) == (ix a1 v7))) (v := .fptr 1 (List.map vi y3.2) v9 0) _ _ (cy (IG 70 (.iaddr 1 (.t 68) (.t 69)) 67 true)) rfl (fun hg => (ok_iaddr_m (j := v9) rfl rfl rfl (gor c10 hg))) (fun hg => (.cons hg (.cons hg .nil)))) ?_
      obtain ⟨c11, h⟩ := chk_some h
      refine RegD.op (OpD.valg (g := ((ix a1 v9) == (ix a1 v7))) (v := vi (ix y3.2 v9)) _ _ (cy (IG 71 (.load false 1 (.t 70)) 67 true)) rfl (fun hg => (ok_load_fm (v := vi (ix y3.2 v9)) rfl (gor c11 hg) rfl)) (fun hg => (.cons hg .nil))) ?_
      refine RegD.op (OpD.valk (g := ((ix a1 v9) == (ix a1 v7))) (v := eS 1 vi y3.2) _ _ (cy (IG 72 (.mov (.t 5)) 67 true)) rfl (by kernel_rfl) (fun hg => (.cons rfl .nil))) ?_
      refine RegD.op (OpD.valk (g := ((ix a1 v9) == (ix a1 v7))) (v := vi v7) _ _ (cy (IG 73 (.mov (.t 10)) 67 true)) rfl (by kernel_rfl) (fun hg => (.cons rfl .nil))) ?_
      refine RegD.op (OpD.valg (g := ((ix a1 v9) == (ix a1 v7))) (v := .fptr 1 (List.map vi y3.2) v7 0) _ _ (cy (IG 74 (.iaddr 1 (.t 72) (.t 73)) 67 true)) rfl (fun hg => (ok_iaddr_m (j := v7) rfl rfl rfl c5)) (fun hg => (.cons hg (.cons hg .nil)))) ?_
      refine RegD.op (OpD.valg (g := ((ix a1 v9) == (ix a1 v7))) (v := vi (ix y3.2 v7)) _ _ (cy (IG 75 (.load false 1 (.t 74)) 67 true)) rfl (fun hg => (ok_load_fm (v := vi (ix y3.2 v7)) rfl c5 rfl)) (fun hg => (.cons hg .nil))) ?_
      obtain ⟨c12, h⟩ := chk_some h
      refine RegD.op (OpD.valg (g := ((ix a1 v9) == (ix a1 v7))) (v := vi ((ix y3.2 v9) - (ix y3.2 v7))) _ _ (cy (IG 76 (.bin .sub false (.t 71) (.t 75)) 67 true)) rfl (fun hg => (r_sub rfl rfl (gor c12 hg))) (fun hg => (.cons hg (.cons hg .nil)))) ?_
      obtain ⟨y10, hy10, h⟩ := bind_some h
      refine RegD.op (OpD.callg (g := ((ix a1 v9) == (ix a1 v7))) (y' := vb ((decide (0 ≤ ((ix y3.2 v9) - (ix y3.2 v7)))) && (decide (((ix y3.2 v9) - (ix y3.2 v7)) ≤ 1)))) (obx := []) _ _ (cy (IG 77 (.call 9 [(.t 76), (.c (.p (.int .i64 0))), (.c (.p (.int .i64 1)))]) 67 true)) rfl (fun hg => agraffebase_Within_ok n ((ix y3.2 v9) - (ix y3.2 v7)) 0 1 y10 (gcall_some hy10 hg)) [] (fun hg => by kernel_rfl) (fun hg => (.cons rfl (.cons hg (.cons rfl (.cons rfl .nil))))) (by kernel_rfl) (by kernel_rfl) ObsRen.nil (by kernel_rfl) (by kernel_rfl) rfl) ?_
      refine RegD.op (OpD.valk (g := ((ix a1 v9) == (ix a1 v7))) (v := vb (!((decide (0 ≤ ((ix y3.2 v9) - (ix y3.2 v7)))) && (decide (((ix y3.2 v9) - (ix y3.2 v7)) ≤ 1))))) _ _ (cy (IG 78 (.un .not (.t 77)) 67 true)) rfl (by kernel_rfl) (fun hg => (.cons hg .nil))) ?_
      refine RegD.op (OpD.and (cy (I0 79 (.pick (.t 67) (.t 78) (.c (.p (.bool false)))))) rfl rfl (by first | exact hokA1 | exact hokA0 | simp)) ?_
      refine RegD.done rfl (by kernel_rfl) (S' := ⟨[(0, vi a0), (1, eS 1 vi a1), (5, eS 1 vi y3.2), (10, vi v7), (9, vi (v6 + (ix y3.2 v7))), (11, vi v9), (79, vb (((ix a1 v9) == (ix a1 v7)) && (!((decide (0 ≤ ((ix y3.2 v9) - (ix y3.2 v7)))) && (decide (((ix y3.2 v9) - (ix y3.2 v7)) ≤ 1))))))], []⟩) (sc [] (by decide) (by kernel_rfl) ObRen.nil rfl rfl) ?_
      refine TriE.cond (b := ((ix a1 v9) == (ix a1 v7)) && (!((decide (0 ≤ ((ix y3.2 v9) - (ix y3.2 v7)))) && (decide (((ix y3.2 v9) - (ix y3.2 v7)) ≤ 1))))) rfl (fun c13 => ?_) (fun c13 => ?_)
      · have h := cond_t h c13
        refine sr [(4, vb false)] [] ?_
        refine TriE.ret ?_
        have h := Option.some.inj h
        subst h
        exact DoneS.ret (S' := ⟨[(4, vb false)], []⟩) Sees.refl rfl rfl
      have h := cond_f h c13
      refine TriE.skip ?_
      refine TriE.regJ ?_
      refine rn 1 [(0, vi a0), (1, eS 1 vi a1), (5, eS 1 vi y3.2), (10, vi v7), (9, vi (v6 + (ix y3.2 v7))), (56, vi v9)] [] ?_
      obtain ⟨c14, h⟩ := chk_some h
      refine jv (vi ((v9 + 1 : Nat) : Int)) (cy (I0 57 (.bin .add false (.t 56) (.c (.p (.int .i64 1)))))) (r_addn (i := v9) (j := 1) rfl rfl c14) rfl ?_
      refine jq 1 [(0, vi a0), (1, eS 1 vi a1), (5, eS 1 vi y3.2), (10, vi v7), (9, vi (v6 + (ix y3.2 v7))), (11, vi ((v9 + 1 : Nat) : Int))] [] ?_
      exact Vs.intro sy ⟨(v9 + 1), rfl, h⟩
    have h := cond_f h c7
    refine TriE.exit ?_
    exact Vs.intro sy ⟨(), rfl, h⟩
  have h := cond_f h c5
  refine TriE.exit ?_
  exact Vs.intro sy ⟨v6, rfl, h⟩
end Go.Proofs.Ytcdcpambkdlhjaa.As
