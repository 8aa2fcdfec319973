/- The code computes what the plain functions say, part 1: no condition. -/
import Derived.Test.YtifabpmjiphhdaaGreatPlain1
import Derived.Test.YtifabpmjiphhdaaGreatProg
namespace Go.Proofs.YtifabpmjiphhdaaGreat.As
open Go Go.Proofs
set_option maxRecDepth 4000
def keepT : List (Nat × List Nat) := [(15, [0, 1, 2, 3, 4, 5, 6, 7]), (20, [0, 2, 3, 4, 7, 9, 10, 11, 17, 25]), (23, [0, 2, 3, 4, 7, 8, 9, 10, 11, 15, 20, 28]), (31, [0, 1, 4, 5, 10, 14, 25]), (58, [0, 1, 2, 6, 7, 8, 9, 10, 11, 12, 13, 15, 16, 17, 19, 20, 22, 23, 24, 25, 26, 27, 28, 29, 30, 34, 39, 46, 50, 51, 52, 53, 63, 77, 78, 79, 80, 81, 85, 86, 87, 88, 127, 128, 129, 140, 144, 145, 146, 147, 155, 180]), (76, [0]), (77, [0]), (78, [0, 1, 4, 5, 6, 7, 8, 10, 11, 12, 17, 21, 22, 23, 24, 28, 29, 30, 35]), (79, [0, 1, 2, 3, 4, 5, 6, 8, 9, 10, 11, 12, 13, 15, 16, 20, 24, 28, 31, 35, 36, 37, 38, 52, 53, 54, 55, 83, 84, 85, 86]), (80, [0, 1, 4, 5, 10, 14, 26]), (81, [0, 1, 4, 5, 10, 14, 25]), (82, [0, 1, 4, 5, 6, 7, 9, 10, 15, 20, 27, 38, 66, 69, 70, 71, 72, 77, 82]), (83, [0, 1, 3, 4, 5, 6, 7, 13]), (84, [2]), (86, [0, 2, 3, 4, 5, 7, 8, 9, 10, 45]), (87, [0, 1, 3, 4]), (88, [0, 1, 2, 6]), (93, [0, 1, 4, 5, 6, 7, 8, 9, 10, 14, 19]), (95, [0, 2]), (100, [0, 1, 4, 5, 6, 7, 8, 9, 10, 14, 19, 25]), (108, [0, 1, 4]), (109, [0, 1, 3, 4]), (110, [0, 1, 4]), (118, [0, 1, 4]), (123, [0, 1, 4, 6, 7, 8, 9, 10, 11, 17, 22, 34]), (124, [0, 1, 2, 4, 5, 6, 8, 9, 13, 14, 15, 16, 24]), (125, [0, 1, 4, 5, 7, 8, 9, 10, 11]), (126, [0, 1, 3, 4, 5, 10, 11, 12, 18, 39]), (127, [0, 1, 4, 5, 6, 7, 8, 9, 10, 11, 19]), (128, [0, 2, 3, 5, 6, 7, 8, 9, 14]), (129, [0, 1, 4, 5, 6, 11, 12, 13, 16, 19]), (130, [0, 1, 4, 5, 6, 7, 8, 9, 10, 11, 12, 19, 28, 35]), (137, [0, 1, 4, 5, 6, 11, 12, 13, 16, 19]), (138, [0, 1, 2]), (140, [0, 1, 4, 5, 6, 8, 13, 17, 18, 19, 20, 21, 39]), (141, [0, 2, 4]), (142, [0, 1, 4, 5, 7, 8, 9, 16]), (143, [0, 1, 2, 3]), (144, [0, 2]), (145, [0, 2, 3, 4, 7, 15]), (146, [0, 1]), (147, [0, 1, 2, 3, 4, 7]), (148, [0, 2]), (149, [0, 1, 2, 4]), (150, [0, 1, 4]), (151, [0, 1, 4, 5, 7, 8, 9, 16]), (152, [0, 1, 2, 3]), (153, [0, 1, 4, 5, 7, 8, 9, 16]), (154, [0, 1, 2, 3]), (158, [0, 1, 2, 3, 8, 9, 10, 11, 12, 13, 14, 15, 16, 17, 18, 23, 29, 35, 50, 68, 72, 87, 113]), (159, [0, 2]), (160, [0, 1, 4]), (161, [0, 1, 2, 3]), (163, [0, 1, 4, 5, 7, 8, 9, 16]), (164, [0, 1, 2, 3]), (165, [0, 1, 4, 5, 7, 8, 9, 16]), (173, [0, 1, 4, 5, 7, 8, 9, 16]), (174, [0, 1, 4]), (175, [0, 1, 3]), (176, [0, 2]), (179, [0, 2]), (180, [0, 2, 3, 5, 6, 8, 9, 10, 11, 12, 20, 25, 26, 27, 28]), (181, [0, 1, 2, 12]), (182, [0, 1, 2, 3, 8, 9, 11, 12, 13, 17, 19, 20, 21, 22, 30, 34, 42]), (183, [0, 1, 2]), (184, [0, 1, 2, 6, 7, 8, 9, 13, 30, 35, 54]), (185, [0, 1, 4, 5, 7, 8, 9, 16]), (186, [0, 1, 2, 6, 7, 12, 30]), (187, [0, 1, 2, 6, 7, 8, 9, 10, 19, 30]), (188, [0, 1, 2, 6, 7, 8, 9, 10, 15, 33, 43]), (189, [0, 1, 2, 6, 7, 8, 9, 10, 11, 12, 32, 34, 49, 51, 54]), (190, [0, 1, 2, 6, 7, 13]), (191, [0, 1, 2, 6, 7, 8, 9, 10, 14, 32, 37, 41, 61, 65, 78, 98, 103, 116]), (192, [0, 1, 4]), (193, [0, 1, 2, 3, 8, 9, 10, 43, 59, 64]), (194, [0, 1, 2, 3, 8, 9, 10, 11, 43, 60, 65, 112, 129, 134]), (195, [0, 2, 4, 8]), (196, [0, 2, 4, 8, 14]), (197, [0, 1, 4, 5, 7, 8, 9, 16]), (201, [0, 1, 4, 5, 7, 8, 9, 16]), (212, [0, 1, 4, 6, 16]), (213, [0, 1, 2, 3, 8, 9, 14, 34]), (214, [0, 1, 2, 3, 4, 10, 11, 12, 13, 14, 15, 16, 17, 18, 19, 20, 21, 22, 23, 24, 28, 33, 50, 58, 80, 85, 103, 110, 140, 151, 171, 185, 199, 213]), (215, [0, 1, 2, 3, 8, 9, 16, 36, 52]), (216, [0, 2]), (217, [0, 2]), (218, [0, 1, 2, 6]), (219, [0, 1, 2, 3, 4, 10]), (224, [0, 1, 2, 3, 4, 10, 11, 20, 23]), (225, [0, 1, 2, 3, 8, 9, 18]), (227, [0, 1, 2, 3, 10, 13])]
def keepOf (f : Nat) : List Nat := match keepT.find? (fun p => Nat.beq p.1 f) with
  | some p => p.2
  | none => []
theorem closed_ok : FnL Tryz.prog 15 [] [] (vb true) [] := funE_sound (by kernel_rfl) 200 false 15 [] [] _ _ (by kernel_rfl : funE Tryz.prog keepOf 1000 200 false 15 [] [] = some (vb true, []))
theorem agraffelaw08_awake_ok (n : Nat) (r : Bool) (h : agraffelaw08_awake n = some r) : FnL Tryz.prog 15 [] [] (vb r) [] := by
 cases h
 exact closed_ok
set_option maxHeartbeats 1000000 in
theorem restore_isName_ok (n : Nat) (a0 : Str) (r : Bool) (h : restore_isName n a0 = some r) : FnL Tryz.prog 86 [vt a0] [] (vb r) [] := by
  dsimp only [restore_isName] at h
  refine FnL.ofS (ts := [2]) Tryz.call86 Tryz.func86 rfl rfl (Nat.le_of_ble_eq_true rfl) (Nat.le_of_ble_eq_true rfl) (fun j h => absurd h (Nat.not_lt_zero j)) ?_
  show TriE _ _ _ _ _ (St.mk [(0, vt a0)] []) _
  refine TriE.seq ?_
  refine TriE.run [(0, vt a0)] [] (by kernel_rfl) ?_
  refine TriE.seqK h (fun (_ : Unit) => St.mk [(0, vt a0)] []) ?_ ?_
  · rintro ⟨⟩ h
    show TriE _ _ _ _ _ (St.mk [(0, vt a0)] []) _
    refine TriE.seq ?_
    refine TriE.regJ ?_
    refine RegJ.run 3 [(0, vt a0), (49, vb (!(a0 == ([] : Str))))] [] (by kernel_rfl) ?_
    refine RegJ.op (Op1.valk (g := !(a0 == ([] : Str))) (v := vt a0) _ _ (cz (IG 50 (.mov (.t 0)) 49 true) (by kernel_rfl)) rfl (by kernel_rfl) (fun hg => (.cons rfl .nil))) ?_
    refine RegJ.op (Op1.valg (g := !(a0 == ([] : Str))) (v := vi ((a0.length : Nat) : Int)) _ _ (cz (IG 51 (.len 1 (.t 50)) 49 true) (by kernel_rfl)) rfl (fun hg => (ok_len_t rfl)) (fun hg => (.cons hg .nil))) ?_
    refine RegJ.op (Op1.valg (g := !(a0 == ([] : Str))) (v := vb (decide (a0.length ≤ 12))) _ _ (cz (IG 52 (.bin .leq false (.t 51) (.c (.p (.int .i64 12)))) 49 true) (by kernel_rfl)) rfl (fun hg => (n_leq (i := a0.length) (j := 12) rfl rfl)) (fun hg => (.cons hg (.cons rfl .nil)))) ?_
    refine RegJ.op (Op1.and (cz (I0 53 (.pick (.t 49) (.t 52) (.c (.p (.bool false))))) (by kernel_rfl)) rfl rfl (by first | exact hokA1 | exact hokA0 | simp)) ?_
    refine jrd 1 [(2, vb ((!(a0 == ([] : Str))) && (decide (a0.length ≤ 12))))] [] (by kernel_rfl) rfl ?_
    refine TriE.ret ?_
    have h := Option.some.inj h
    subst h
    exact DoneS.ret (S' := ⟨[(2, vb ((!(a0 == ([] : Str))) && (decide (a0.length ≤ 12))))], []⟩) Sees.refl rfl rfl
  intro k1 h
  refine TriE.seq ?_
  refine TriE.regJ ?_
  refine RegJ.run 1 [(0, vt a0), (6, vt a0)] [] (by kernel_rfl) ?_
  refine RegJ.op (Op1.bytes (s := ⟨⟨a0⟩⟩) _ (cz (I0 7 (.bytes (.t 6))) (by kernel_rfl)) rfl (.cons rfl .nil)) ?_
  refine jv (vi ((a0.length : Nat) : Int)) (cz (I0 8 (.len 0 (.t 7))) (by kernel_rfl)) (ok_len_m rfl) rfl ?_
  refine jrd 1 [(0, vt a0), (7, eS 1 vbyte a0), (8, vi ((a0.length : Nat) : Int)), (9, vi 0)] [] (by kernel_rfl) rfl ?_
  refine TriE.block ?_
  refine TriE.sees (S' := ⟨[(0, vt a0), (7, eS 1 vbyte a0), (8, vi ((a0.length : Nat) : Int)), (9, vi ((0 : Nat) : Int))], []⟩) (sl (by kernel_rfl)) ?_
  refine TriE.loopN h (fun (v1 : Nat) => St.mk [(0, vt a0), (7, eS 1 vbyte a0), (8, vi ((a0.length : Nat) : Int)), (9, vi ((v1 : Nat) : Int))] []) rfl ?_
  clear h
  rintro back v1 h
  dsimp only [restore_isName_L1] at h
  show TriE _ _ _ _ _ (St.mk [(0, vt a0), (7, eS 1 vbyte a0), (8, vi ((a0.length : Nat) : Int)), (9, vi ((v1 : Nat) : Int))] []) _
  refine TriE.seq ?_
  refine TriE.regJ ?_
  refine jv (vb (decide (v1 < a0.length))) (cz (I0 10 (.bin .lss false (.t 9) (.t 8))) (by kernel_rfl)) (n_lss (i := v1) (j := a0.length) rfl rfl) rfl ?_
  refine jd [(0, vt a0), (7, eS 1 vbyte a0), (8, vi ((a0.length : Nat) : Int)), (9, vi ((v1 : Nat) : Int)), (10, vb (decide (v1 < a0.length)))] (by kernel_rfl) rfl ?_
  refine TriE.seq ?_
  refine TriE.cond (b := decide (v1 < a0.length)) rfl (fun c1 => ?_) (fun c1 => ?_)
  · have h := cond_t h c1
    refine TriE.skip ?_
    refine TriE.seq ?_
    refine TriE.block ?_
    refine TriE.seq ?_
    refine TriE.regJ ?_
    refine RegJ.run 1 [(0, vt a0), (7, eS 1 vbyte a0), (8, vi ((a0.length : Nat) : Int)), (9, vi ((v1 : Nat) : Int)), (11, vi ((v1 : Nat) : Int))] [] (by kernel_rfl) ?_
    refine jv (.fptr 1 (List.map vbyte a0) v1 0) (cz (I0 12 (.iaddr 1 (.t 7) (.t 9))) (by kernel_rfl)) (ok_iaddr_m (j := v1) rfl rfl rfl c1) rfl ?_
    refine jv (vk .u8 (((ix a0 v1).toNat : Nat) : Int)) (cz (I0 13 (.load false 1 (.t 12))) (by kernel_rfl)) (ok_load_fm (v := vk .u8 (((ix a0 v1).toNat : Nat) : Int)) rfl c1 rfl) rfl ?_
    refine jrd 2 [(0, vt a0), (7, eS 1 vbyte a0), (8, vi ((a0.length : Nat) : Int)), (9, vi ((v1 : Nat) : Int)), (3, vi ((v1 : Nat) : Int)), (4, vk .u8 (((ix a0 v1).toNat : Nat) : Int))] [] (by kernel_rfl) rfl ?_
    refine TriE.seq ?_
    refine TriE.regJ ?_
    refine RegJ.run 3 [(0, vt a0), (7, eS 1 vbyte a0), (8, vi ((a0.length : Nat) : Int)), (9, vi ((v1 : Nat) : Int)), (3, vi ((v1 : Nat) : Int)), (4, vk .u8 (((ix a0 v1).toNat : Nat) : Int)), (16, vb (decide ((97 : Int) ≤ (((ix a0 v1).toNat : Nat) : Int))))] [] (by kernel_rfl) ?_
    refine RegJ.op (Op1.valk (g := decide ((97 : Int) ≤ (((ix a0 v1).toNat : Nat) : Int))) (v := vk .u8 (((ix a0 v1).toNat : Nat) : Int)) _ _ (cz (IG 17 (.mov (.t 4)) 16 true) (by kernel_rfl)) rfl (by kernel_rfl) (fun hg => (.cons rfl .nil))) ?_
    refine RegJ.op (Op1.valk (g := decide ((97 : Int) ≤ (((ix a0 v1).toNat : Nat) : Int))) (v := vb (decide ((((ix a0 v1).toNat : Nat) : Int) ≤ (122 : Int)))) _ _ (cz (IG 18 (.bin .leq false (.t 17) (.c (.p (.int .u8 122)))) 16 true) (by kernel_rfl)) rfl (by kernel_rfl) (fun hg => (.cons hg (.cons rfl .nil)))) ?_
    refine RegJ.op (Op1.and (cz (I0 19 (.pick (.t 16) (.t 18) (.c (.p (.bool false))))) (by kernel_rfl)) rfl rfl (by first | exact hokA1 | exact hokA0 | simp)) ?_
    refine RegJ.run 1 [(0, vt a0), (7, eS 1 vbyte a0), (8, vi ((a0.length : Nat) : Int)), (9, vi ((v1 : Nat) : Int)), (3, vi ((v1 : Nat) : Int)), (4, vk .u8 (((ix a0 v1).toNat : Nat) : Int)), (17, .cond (decide ((97 : Int) ≤ (((ix a0 v1).toNat : Nat) : Int))) (vk .u8 (((ix a0 v1).toNat : Nat) : Int))), (18, .cond (decide ((97 : Int) ≤ (((ix a0 v1).toNat : Nat) : Int))) (vb (decide ((((ix a0 v1).toNat : Nat) : Int) ≤ (122 : Int))))), (20, vb ((decide ((97 : Int) ≤ (((ix a0 v1).toNat : Nat) : Int))) && (decide ((((ix a0 v1).toNat : Nat) : Int) ≤ (122 : Int)))))] [] (by kernel_rfl) ?_
    refine RegJ.op (Op1.valk (g := !((decide ((97 : Int) ≤ (((ix a0 v1).toNat : Nat) : Int))) && (decide ((((ix a0 v1).toNat : Nat) : Int) ≤ (122 : Int))))) (v := vk .u8 (((ix a0 v1).toNat : Nat) : Int)) _ _ (cz (IG 21 (.mov (.t 4)) 20 false) (by kernel_rfl)) rfl (by kernel_rfl) (fun hg => (.cons rfl .nil))) ?_
    refine RegJ.op (Op1.valk (g := !((decide ((97 : Int) ≤ (((ix a0 v1).toNat : Nat) : Int))) && (decide ((((ix a0 v1).toNat : Nat) : Int) ≤ (122 : Int))))) (v := vb (decide ((65 : Int) ≤ (((ix a0 v1).toNat : Nat) : Int)))) _ _ (cz (IG 22 (.bin .geq false (.t 21) (.c (.p (.int .u8 65)))) 20 false) (by kernel_rfl)) rfl (by kernel_rfl) (fun hg => (.cons hg (.cons rfl .nil)))) ?_
    refine RegJ.op (Op1.valk (g := !((decide ((97 : Int) ≤ (((ix a0 v1).toNat : Nat) : Int))) && (decide ((((ix a0 v1).toNat : Nat) : Int) ≤ (122 : Int))))) (v := vb (decide ((65 : Int) ≤ (((ix a0 v1).toNat : Nat) : Int)))) _ _ (cz (IG 23 (.mov (.t 22)) 20 false) (by kernel_rfl)) rfl (by kernel_rfl) (fun hg => (.cons hg .nil))) ?_
    refine RegJ.op (Op1.valk (g := (!((decide ((97 : Int) ≤ (((ix a0 v1).toNat : Nat) : Int))) && (decide ((((ix a0 v1).toNat : Nat) : Int) ≤ (122 : Int))))) && (decide ((65 : Int) ≤ (((ix a0 v1).toNat : Nat) : Int)))) (v := vk .u8 (((ix a0 v1).toNat : Nat) : Int)) _ _ (cz (IG 24 (.mov (.t 4)) 23 true) (by kernel_rfl)) rfl (by kernel_rfl) (fun hg => (.cons rfl .nil))) ?_
    refine RegJ.op (Op1.valk (g := (!((decide ((97 : Int) ≤ (((ix a0 v1).toNat : Nat) : Int))) && (decide ((((ix a0 v1).toNat : Nat) : Int) ≤ (122 : Int))))) && (decide ((65 : Int) ≤ (((ix a0 v1).toNat : Nat) : Int)))) (v := vb (decide ((((ix a0 v1).toNat : Nat) : Int) ≤ (90 : Int)))) _ _ (cz (IG 25 (.bin .leq false (.t 24) (.c (.p (.int .u8 90)))) 23 true) (by kernel_rfl)) rfl (by kernel_rfl) (fun hg => (.cons hg (.cons rfl .nil)))) ?_
    refine RegJ.op (Op1.andg (g := !((decide ((97 : Int) ≤ (((ix a0 v1).toNat : Nat) : Int))) && (decide ((((ix a0 v1).toNat : Nat) : Int) ≤ (122 : Int))))) (cz (IG 26 (.pick (.t 23) (.t 25) (.c (.p (.bool false)))) 20 false) (by kernel_rfl)) rfl rfl rfl (fun hg => by first | exact hokA2 hg | exact hokA3 hg | exact hokA1 | exact hokA0 | (rw [hg]; simp) | simp_all)) ?_
    refine RegJ.op (Op1.or (cz (I0 27 (.pick (.t 20) (.c (.p (.bool true))) (.t 26))) (by kernel_rfl)) rfl rfl (by first | exact hokO1 | exact hokO0 | simp)) ?_
    refine jrd 1 [(0, vt a0), (7, eS 1 vbyte a0), (8, vi ((a0.length : Nat) : Int)), (9, vi ((v1 : Nat) : Int)), (3, vi ((v1 : Nat) : Int)), (4, vk .u8 (((ix a0 v1).toNat : Nat) : Int)), (5, vb (((decide ((97 : Int) ≤ (((ix a0 v1).toNat : Nat) : Int))) && (decide ((((ix a0 v1).toNat : Nat) : Int) ≤ (122 : Int)))) || ((decide ((65 : Int) ≤ (((ix a0 v1).toNat : Nat) : Int))) && (decide ((((ix a0 v1).toNat : Nat) : Int) ≤ (90 : Int))))))] [] (by kernel_rfl) rfl ?_
    refine TriE.seq ?_
    refine TriE.regJ ?_
    refine RegJ.run 3 [(0, vt a0), (7, eS 1 vbyte a0), (8, vi ((a0.length : Nat) : Int)), (9, vi ((v1 : Nat) : Int)), (3, vi ((v1 : Nat) : Int)), (4, vk .u8 (((ix a0 v1).toNat : Nat) : Int)), (30, vb (!(((decide ((97 : Int) ≤ (((ix a0 v1).toNat : Nat) : Int))) && (decide ((((ix a0 v1).toNat : Nat) : Int) ≤ (122 : Int)))) || ((decide ((65 : Int) ≤ (((ix a0 v1).toNat : Nat) : Int))) && (decide ((((ix a0 v1).toNat : Nat) : Int) ≤ (90 : Int)))))))] [] (by kernel_rfl) ?_
    refine RegJ.op (Op1.valk (g := !(((decide ((97 : Int) ≤ (((ix a0 v1).toNat : Nat) : Int))) && (decide ((((ix a0 v1).toNat : Nat) : Int) ≤ (122 : Int)))) || ((decide ((65 : Int) ≤ (((ix a0 v1).toNat : Nat) : Int))) && (decide ((((ix a0 v1).toNat : Nat) : Int) ≤ (90 : Int)))))) (v := vi ((v1 : Nat) : Int)) _ _ (cz (IG 31 (.mov (.t 3)) 30 true) (by kernel_rfl)) rfl (by kernel_rfl) (fun hg => (.cons rfl .nil))) ?_
    refine RegJ.op (Op1.valg (g := !(((decide ((97 : Int) ≤ (((ix a0 v1).toNat : Nat) : Int))) && (decide ((((ix a0 v1).toNat : Nat) : Int) ≤ (122 : Int)))) || ((decide ((65 : Int) ≤ (((ix a0 v1).toNat : Nat) : Int))) && (decide ((((ix a0 v1).toNat : Nat) : Int) ≤ (90 : Int)))))) (v := vb (decide (v1 = 0))) _ _ (cz (IG 32 (.bin .eql false (.t 31) (.c (.p (.int .i64 0)))) 30 true) (by kernel_rfl)) rfl (fun hg => (n_eql (i := v1) (j := 0) rfl rfl)) (fun hg => (.cons hg (.cons rfl .nil)))) ?_
    refine RegJ.op (Op1.valk (g := !(((decide ((97 : Int) ≤ (((ix a0 v1).toNat : Nat) : Int))) && (decide ((((ix a0 v1).toNat : Nat) : Int) ≤ (122 : Int)))) || ((decide ((65 : Int) ≤ (((ix a0 v1).toNat : Nat) : Int))) && (decide ((((ix a0 v1).toNat : Nat) : Int) ≤ (90 : Int)))))) (v := vb (decide (v1 = 0))) _ _ (cz (IG 33 (.mov (.t 32)) 30 true) (by kernel_rfl)) rfl (by kernel_rfl) (fun hg => (.cons hg .nil))) ?_
    refine RegJ.op (Op1.valk (g := (!(((decide ((97 : Int) ≤ (((ix a0 v1).toNat : Nat) : Int))) && (decide ((((ix a0 v1).toNat : Nat) : Int) ≤ (122 : Int)))) || ((decide ((65 : Int) ≤ (((ix a0 v1).toNat : Nat) : Int))) && (decide ((((ix a0 v1).toNat : Nat) : Int) ≤ (90 : Int)))))) && !(decide (v1 = 0))) (v := vk .u8 (((ix a0 v1).toNat : Nat) : Int)) _ _ (cz (IG 34 (.mov (.t 4)) 33 false) (by kernel_rfl)) rfl (by kernel_rfl) (fun hg => (.cons rfl .nil))) ?_
    refine RegJ.op (Op1.valk (g := (!(((decide ((97 : Int) ≤ (((ix a0 v1).toNat : Nat) : Int))) && (decide ((((ix a0 v1).toNat : Nat) : Int) ≤ (122 : Int)))) || ((decide ((65 : Int) ≤ (((ix a0 v1).toNat : Nat) : Int))) && (decide ((((ix a0 v1).toNat : Nat) : Int) ≤ (90 : Int)))))) && !(decide (v1 = 0))) (v := vb ((((ix a0 v1).toNat : Nat) : Int) != (45 : Int))) _ _ (cz (IG 35 (.bin .neq false (.t 34) (.c (.p (.int .u8 45)))) 33 false) (by kernel_rfl)) rfl (by kernel_rfl) (fun hg => (.cons hg (.cons rfl .nil)))) ?_
    refine RegJ.op (Op1.valk (g := (!(((decide ((97 : Int) ≤ (((ix a0 v1).toNat : Nat) : Int))) && (decide ((((ix a0 v1).toNat : Nat) : Int) ≤ (122 : Int)))) || ((decide ((65 : Int) ≤ (((ix a0 v1).toNat : Nat) : Int))) && (decide ((((ix a0 v1).toNat : Nat) : Int) ≤ (90 : Int)))))) && !(decide (v1 = 0))) (v := vb ((((ix a0 v1).toNat : Nat) : Int) != (45 : Int))) _ _ (cz (IG 36 (.mov (.t 35)) 33 false) (by kernel_rfl)) rfl (by kernel_rfl) (fun hg => (.cons hg .nil))) ?_
    refine RegJ.op (Op1.valk (g := ((!(((decide ((97 : Int) ≤ (((ix a0 v1).toNat : Nat) : Int))) && (decide ((((ix a0 v1).toNat : Nat) : Int) ≤ (122 : Int)))) || ((decide ((65 : Int) ≤ (((ix a0 v1).toNat : Nat) : Int))) && (decide ((((ix a0 v1).toNat : Nat) : Int) ≤ (90 : Int)))))) && !(decide (v1 = 0))) && ((((ix a0 v1).toNat : Nat) : Int) != (45 : Int))) (v := vk .u8 (((ix a0 v1).toNat : Nat) : Int)) _ _ (cz (IG 37 (.mov (.t 4)) 36 true) (by kernel_rfl)) rfl (by kernel_rfl) (fun hg => (.cons rfl .nil))) ?_
    refine RegJ.op (Op1.valk (g := ((!(((decide ((97 : Int) ≤ (((ix a0 v1).toNat : Nat) : Int))) && (decide ((((ix a0 v1).toNat : Nat) : Int) ≤ (122 : Int)))) || ((decide ((65 : Int) ≤ (((ix a0 v1).toNat : Nat) : Int))) && (decide ((((ix a0 v1).toNat : Nat) : Int) ≤ (90 : Int)))))) && !(decide (v1 = 0))) && ((((ix a0 v1).toNat : Nat) : Int) != (45 : Int))) (v := vb (decide ((((ix a0 v1).toNat : Nat) : Int) < (48 : Int)))) _ _ (cz (IG 38 (.bin .lss false (.t 37) (.c (.p (.int .u8 48)))) 36 true) (by kernel_rfl)) rfl (by kernel_rfl) (fun hg => (.cons hg (.cons rfl .nil)))) ?_
    refine RegJ.op (Op1.valk (g := ((!(((decide ((97 : Int) ≤ (((ix a0 v1).toNat : Nat) : Int))) && (decide ((((ix a0 v1).toNat : Nat) : Int) ≤ (122 : Int)))) || ((decide ((65 : Int) ≤ (((ix a0 v1).toNat : Nat) : Int))) && (decide ((((ix a0 v1).toNat : Nat) : Int) ≤ (90 : Int)))))) && !(decide (v1 = 0))) && ((((ix a0 v1).toNat : Nat) : Int) != (45 : Int))) (v := vb (decide ((((ix a0 v1).toNat : Nat) : Int) < (48 : Int)))) _ _ (cz (IG 39 (.mov (.t 38)) 36 true) (by kernel_rfl)) rfl (by kernel_rfl) (fun hg => (.cons hg .nil))) ?_
    refine RegJ.op (Op1.valk (g := (((!(((decide ((97 : Int) ≤ (((ix a0 v1).toNat : Nat) : Int))) && (decide ((((ix a0 v1).toNat : Nat) : Int) ≤ (122 : Int)))) || ((decide ((65 : Int) ≤ (((ix a0 v1).toNat : Nat) : Int))) && (decide ((((ix a0 v1).toNat : Nat) : Int) ≤ (90 : Int)))))) && !(decide (v1 = 0))) && ((((ix a0 v1).toNat : Nat) : Int) != (45 : Int))) && !(decide ((((ix a0 v1).toNat : Nat) : Int) < (48 : Int)))) (v := vk .u8 (((ix a0 v1).toNat : Nat) : Int)) _ _ (cz (IG 40 (.mov (.t 4)) 39 false) (by kernel_rfl)) rfl (by kernel_rfl) (fun hg => (.cons rfl .nil))) ?_
    refine RegJ.op (Op1.valk (g := (((!(((decide ((97 : Int) ≤ (((ix a0 v1).toNat : Nat) : Int))) && (decide ((((ix a0 v1).toNat : Nat) : Int) ≤ (122 : Int)))) || ((decide ((65 : Int) ≤ (((ix a0 v1).toNat : Nat) : Int))) && (decide ((((ix a0 v1).toNat : Nat) : Int) ≤ (90 : Int)))))) && !(decide (v1 = 0))) && ((((ix a0 v1).toNat : Nat) : Int) != (45 : Int))) && !(decide ((((ix a0 v1).toNat : Nat) : Int) < (48 : Int)))) (v := vb (decide ((57 : Int) < (((ix a0 v1).toNat : Nat) : Int)))) _ _ (cz (IG 41 (.bin .gtr false (.t 40) (.c (.p (.int .u8 57)))) 39 false) (by kernel_rfl)) rfl (by kernel_rfl) (fun hg => (.cons hg (.cons rfl .nil)))) ?_
    refine RegJ.op (Op1.org (g := ((!(((decide ((97 : Int) ≤ (((ix a0 v1).toNat : Nat) : Int))) && (decide ((((ix a0 v1).toNat : Nat) : Int) ≤ (122 : Int)))) || ((decide ((65 : Int) ≤ (((ix a0 v1).toNat : Nat) : Int))) && (decide ((((ix a0 v1).toNat : Nat) : Int) ≤ (90 : Int)))))) && !(decide (v1 = 0))) && ((((ix a0 v1).toNat : Nat) : Int) != (45 : Int))) (cz (IG 42 (.pick (.t 39) (.c (.p (.bool true))) (.t 41)) 36 true) (by kernel_rfl)) rfl rfl rfl (fun hg => by first | exact hokO2 hg | exact hokO3 hg | exact hokO1 | exact hokO0 | (rw [hg]; simp) | simp_all)) ?_
    refine RegJ.op (Op1.andg (g := (!(((decide ((97 : Int) ≤ (((ix a0 v1).toNat : Nat) : Int))) && (decide ((((ix a0 v1).toNat : Nat) : Int) ≤ (122 : Int)))) || ((decide ((65 : Int) ≤ (((ix a0 v1).toNat : Nat) : Int))) && (decide ((((ix a0 v1).toNat : Nat) : Int) ≤ (90 : Int)))))) && !(decide (v1 = 0))) (cz (IG 43 (.pick (.t 36) (.t 42) (.c (.p (.bool false)))) 33 false) (by kernel_rfl)) rfl rfl rfl (fun hg => by first | exact hokA2 hg | exact hokA3 hg | exact hokA1 | exact hokA0 | (rw [hg]; simp) | simp_all)) ?_
    refine RegJ.op (Op1.org (g := !(((decide ((97 : Int) ≤ (((ix a0 v1).toNat : Nat) : Int))) && (decide ((((ix a0 v1).toNat : Nat) : Int) ≤ (122 : Int)))) || ((decide ((65 : Int) ≤ (((ix a0 v1).toNat : Nat) : Int))) && (decide ((((ix a0 v1).toNat : Nat) : Int) ≤ (90 : Int)))))) (cz (IG 44 (.pick (.t 33) (.c (.p (.bool true))) (.t 43)) 30 true) (by kernel_rfl)) rfl rfl rfl (fun hg => by first | exact hokO2 hg | exact hokO3 hg | exact hokO1 | exact hokO0 | (rw [hg]; simp) | simp_all)) ?_
    refine RegJ.op (Op1.and (cz (I0 45 (.pick (.t 30) (.t 44) (.c (.p (.bool false))))) (by kernel_rfl)) rfl rfl (by first | exact hokA1 | exact hokA0 | simp)) ?_
    refine jd [(0, vt a0), (7, eS 1 vbyte a0), (8, vi ((a0.length : Nat) : Int)), (9, vi ((v1 : Nat) : Int)), (45, vb ((!(((decide ((97 : Int) ≤ (((ix a0 v1).toNat : Nat) : Int))) && (decide ((((ix a0 v1).toNat : Nat) : Int) ≤ (122 : Int)))) || ((decide ((65 : Int) ≤ (((ix a0 v1).toNat : Nat) : Int))) && (decide ((((ix a0 v1).toNat : Nat) : Int) ≤ (90 : Int)))))) && ((decide (v1 = 0)) || (((((ix a0 v1).toNat : Nat) : Int) != (45 : Int)) && ((decide ((((ix a0 v1).toNat : Nat) : Int) < (48 : Int))) || (decide ((57 : Int) < (((ix a0 v1).toNat : Nat) : Int))))))))] (by kernel_rfl) rfl ?_
    refine TriE.cond (b := (!(((decide ((97 : Int) ≤ (((ix a0 v1).toNat : Nat) : Int))) && (decide ((((ix a0 v1).toNat : Nat) : Int) ≤ (122 : Int)))) || ((decide ((65 : Int) ≤ (((ix a0 v1).toNat : Nat) : Int))) && (decide ((((ix a0 v1).toNat : Nat) : Int) ≤ (90 : Int)))))) && ((decide (v1 = 0)) || (((((ix a0 v1).toNat : Nat) : Int) != (45 : Int)) && ((decide ((((ix a0 v1).toNat : Nat) : Int) < (48 : Int))) || (decide ((57 : Int) < (((ix a0 v1).toNat : Nat) : Int))))))) rfl (fun c2 => ?_) (fun c2 => ?_)
    · have h := cond_t h c2
      refine TriE.seq ?_
      refine TriE.run [(2, vb false)] [] (by kernel_rfl) ?_
      refine TriE.ret ?_
      have h := Option.some.inj h
      subst h
      exact DoneS.ret (S' := ⟨[(2, vb false)], []⟩) Sees.refl rfl rfl
    have h := cond_f h c2
    refine TriE.skip ?_
    refine TriE.regJ ?_
    obtain ⟨c3, h⟩ := chk_some h
    refine jv (vi ((v1 + 1 : Nat) : Int)) (cz (I0 46 (.bin .add false (.t 9) (.c (.p (.int .i64 1))))) (by kernel_rfl)) (r_addn (i := v1) (j := 1) rfl rfl c3) rfl ?_
    refine jrd 1 [(0, vt a0), (7, eS 1 vbyte a0), (8, vi ((a0.length : Nat) : Int)), (9, vi ((v1 + 1 : Nat) : Int))] [] (by kernel_rfl) rfl ?_
    exact Vs.intro (sl (by kernel_rfl)) ⟨(v1 + 1), rfl, h⟩
  have h := cond_f h c1
  refine TriE.exit ?_
  exact Vs.intro (sl (by kernel_rfl)) ⟨(), rfl, h⟩
theorem restore_within_ok (n : Nat) (a0 : Int) (a1 : Int) (a2 : Int) (r : Unit) (h : restore_within n a0 a1 a2 = some r) : FnL Tryz.prog 88 [vi a0, vi a1, vi a2] [] (vb ((decide (a1 ≤ a0)) && (decide (a0 ≤ a2)))) [] := by
 dsimp only [restore_within] at h
 refine fo [6] Tryz.call88 Tryz.func88 rfl ?_
 refine sk .a ?_
 refine sj ?_
 refine rk 4 (.k (.d (.k (.i 10 (vb (decide (a1 ≤ a0))) .n)))) ?_
 refine gj (vi a0) 11 (.mov 0) 10 true rfl ?_
 refine gj (vi a2) 12 (.mov 2) 10 true rfl ?_
 refine gk (vb (decide (a0 ≤ a2))) 13 (.bin .leq false 11 12) 10 true rfl (fun hg => (.cons hg (.cons hg .nil))) ?_
 refine pa 14 10 13 rfl rfl ?_
 refine jk 1 (.i 6 (vb ((decide (a1 ≤ a0)) && (decide (a0 ≤ a2)))) .n) ?_
 refine q3 ?_
 have h := si h
 subst h
 exact DoneS.ret Sees.refl rfl rfl
theorem agraffebase_isLetter_ok (n : Nat) (a0 : Int) (r : Unit) (h : agraffebase_isLetter n a0 = some r) : FnL Tryz.prog 155 [vk .u8 a0] [] (vb (((decide ((97 : Int) ≤ a0)) && (decide (a0 ≤ (122 : Int)))) || ((decide ((65 : Int) ≤ a0)) && (decide (a0 ≤ (90 : Int)))))) [] := by
 dsimp only [agraffebase_isLetter] at h
 refine fo [2] Tryz.call155 Tryz.func155 rfl ?_
 refine sk .a ?_
 refine sj ?_
 refine rk 3 (.k (.i 5 (vb (decide ((97 : Int) ≤ a0))) .n)) ?_
 refine gj (vk .u8 a0) 6 (.mov 0) 5 true rfl ?_
 refine gk (vb (decide (a0 ≤ (122 : Int)))) 7 (.bin .leq false 6 (.c (.p (.int .u8 122)))) 5 true rfl (fun hg => (.cons hg (.cons rfl .nil))) ?_
 refine pa 8 5 7 rfl rfl ?_
 refine rk 1 (.d3 (.k (.i 9 (vb ((decide ((97 : Int) ≤ a0)) && (decide (a0 ≤ (122 : Int))))) .n))) ?_
 refine gj (vk .u8 a0) 10 (.mov 0) 9 false rfl ?_
 refine gk (vb (decide ((65 : Int) ≤ a0))) 11 (.bin .geq false 10 (.c (.p (.int .u8 65)))) 9 false rfl (fun hg => (.cons hg (.cons rfl .nil))) ?_
 refine gk (vb (decide ((65 : Int) ≤ a0))) 12 (.mov 11) 9 false rfl (fun hg => (.cons hg .nil)) ?_
 refine gj (vk .u8 a0) 13 (.mov 0) 12 true rfl ?_
 refine gk (vb (decide (a0 ≤ (90 : Int)))) 14 (.bin .leq false 13 (.c (.p (.int .u8 90)))) 12 true rfl (fun hg => (.cons hg (.cons rfl .nil))) ?_
 refine RegJ.op (Op1.andg (g := !((decide ((97 : Int) ≤ a0)) && (decide (a0 ≤ (122 : Int))))) (cy (IG 15 (.pick 12 14 (.c (.p (.bool false)))) 9 false)) rfl rfl rfl (fun hg => by first | exact hokA2 hg | exact hokA3 hg | exact hokA1 | exact hokA0 | (rw [hg]; simp) | simp_all)) ?_
 refine po 16 9 15 rfl rfl ?_
 refine jk 1 (.i 2 (vb (((decide ((97 : Int) ≤ a0)) && (decide (a0 ≤ (122 : Int)))) || ((decide ((65 : Int) ≤ a0)) && (decide (a0 ≤ (90 : Int)))))) .n) ?_
 refine q3 ?_
 have h := si h
 subst h
 exact DoneS.ret Sees.refl rfl rfl
theorem agraffebase_isDigit_ok (n : Nat) (a0 : Int) (r : Unit) (h : agraffebase_isDigit n a0 = some r) : FnL Tryz.prog 156 [vk .u8 a0] [] (vb ((decide ((48 : Int) ≤ a0)) && (decide (a0 ≤ (57 : Int))))) [] := by
 dsimp only [agraffebase_isDigit] at h
 refine fo [2] Tryz.call156 Tryz.func156 rfl ?_
 refine sk .a ?_
 refine sj ?_
 refine rk 3 (.k (.i 5 (vb (decide ((48 : Int) ≤ a0))) .n)) ?_
 refine gj (vk .u8 a0) 6 (.mov 0) 5 true rfl ?_
 refine gk (vb (decide (a0 ≤ (57 : Int)))) 7 (.bin .leq false 6 (.c (.p (.int .u8 57)))) 5 true rfl (fun hg => (.cons hg (.cons rfl .nil))) ?_
 refine pa 8 5 7 rfl rfl ?_
 refine jk 1 (.i 2 (vb ((decide ((48 : Int) ≤ a0)) && (decide (a0 ≤ (57 : Int))))) .n) ?_
 refine q3 ?_
 have h := si h
 subst h
 exact DoneS.ret Sees.refl rfl rfl
set_option maxHeartbeats 1000000 in
theorem agraffebase_IsName_ok (n : Nat) (a0 : Str) (r : Bool) (h : agraffebase_IsName n a0 = some r) : FnL Tryz.prog 89 [vt a0] [] (vb r) [] := by
 dsimp only [agraffebase_IsName] at h
 refine fo [2] Tryz.call89 Tryz.func89 rfl ?_
 refine sk .a ?_
 refine q1 ?_
 refine sj ?_
 refine rk 1 (.k (.i 4 (vt a0) .n)) ?_
 refine jo 5 (.len 1 4) (ok_len_t rfl) ?_
 refine jo 6 (.bin .eql false 5 (ki 0)) (n_eql (i := a0.length) (j := 0) rfl rfl) ?_
 refine rk 1 (.d2 (.k (.i 7 (vb (decide (a0.length = 0))) .n))) ?_
 refine gj (vt a0) 8 (.mov 0) 7 false rfl ?_
 refine gv 9 (.len 1 8) 7 false rfl (fun hg => (ok_len_t rfl)) (fun hg => (.cons hg .nil)) ?_
 refine gv 10 (.bin .gtr false 9 (ki 12)) 7 false rfl (fun hg => (n_gtr (i := a0.length) (j := 12) rfl rfl)) (fun hg => (.cons hg (.cons rfl .nil))) ?_
 refine po 11 7 10 rfl rfl ?_
 refine rk 1 (.d4 (.k (.i 12 (vb ((decide (a0.length = 0)) || (decide (12 < a0.length)))) .n))) ?_
 refine gj (vt a0) 13 (.mov 0) 12 false rfl ?_
 obtain ⟨c1, h⟩ := ck h
 refine gv 14 (.sidx 13 (ki 0)) 12 false rfl (fun hg => (ok_sidx_t (j := 0) rfl rfl rfl (gor c1 hg))) (fun hg => (.cons hg (.cons rfl .nil))) ?_
 obtain ⟨y1, hy1, h⟩ := bs h
 refine gc 15 [14] 12 false rfl (fun hg => agraffebase_isLetter_ok n (((List.getD a0 0 0).toNat : Nat) : Int) y1 (gcall_some hy1 hg)) (fun hg => (.cons rfl (.cons hg .nil))) (fun hg => by kernel_rfl) ?_
 refine gk (vb (!(((decide ((97 : Int) ≤ (((List.getD a0 0 0).toNat : Nat) : Int))) && (decide ((((List.getD a0 0 0).toNat : Nat) : Int) ≤ (122 : Int)))) || ((decide ((65 : Int) ≤ (((List.getD a0 0 0).toNat : Nat) : Int))) && (decide ((((List.getD a0 0 0).toNat : Nat) : Int) ≤ (90 : Int))))))) 16 (.un .not 15) 12 false rfl (fun hg => (.cons hg .nil)) ?_
 refine po 17 12 16 rfl rfl ?_
 refine jf (.d4 (.d (.k (.i 17 (vb (((decide (a0.length = 0)) || (decide (12 < a0.length))) || (!(((decide ((97 : Int) ≤ (((List.getD a0 0 0).toNat : Nat) : Int))) && (decide ((((List.getD a0 0 0).toNat : Nat) : Int) ≤ (122 : Int)))) || ((decide ((65 : Int) ≤ (((List.getD a0 0 0).toNat : Nat) : Int))) && (decide ((((List.getD a0 0 0).toNat : Nat) : Int) ≤ (90 : Int)))))))) .n)))) ?_
 refine tc h (fun c2 h => ?_) (fun c2 h => ?_)
 ·refine sk (.i 2 (vb false) .n) ?_
  refine q3 ?_
  have h := si h
  subst h
  exact DoneS.ret Sees.refl rfl rfl
 refine q2 ?_
 refine TriE.seqK h (fun (_ : Unit) => St.mk [] []) ?_ ?_
 ·rintro ⟨⟩ h
  refine sk (.i 2 (vb true) .n) ?_
  refine q3 ?_
  have h := si h
  subst h
  exact DoneS.ret Sees.refl rfl rfl
 intro k1 h
 refine sk (.k (.i 3 (vi 0) .n)) ?_
 refine q4 ?_
 refine ts (.k (.i 3 (vi 0) .n)) ?_
 refine TriE.loopN h (fun (v4 : Nat) => St.mk [(0, vt a0), (3, vi v4)] []) rfl ?_
 clear h
 rintro back v4 h
 dsimp only [agraffebase_IsName_L1] at h
 refine q1 ?_
 refine sj ?_
 refine rk 2 (.k2 (.i 18 (vi v4) (.i 19 (vt a0) .n))) ?_
 refine jo 20 (.len 1 19) (ok_len_t rfl) ?_
 refine jo 21 (.bin .lss false 18 20) (n_lss (i := v4) (j := a0.length) rfl rfl) ?_
 refine jf (.d2 (.k2 (.i 21 (vb (decide (v4 < a0.length))) .n))) ?_
 refine tc h (fun c3 h => ?_) (fun c3 h => ?_)
 ·refine q2 ?_
  refine q7 ?_
  refine sj ?_
  refine rk 2 (.k2 (.i 24 (vt a0) (.i 25 (vi v4) .n))) ?_
  refine jo 26 (.sidx 24 25) (ok_sidx_t (j := v4) rfl rfl rfl c3) ?_
  obtain ⟨y5, hy5, h⟩ := bs h
  refine jc 27 [26] (agraffebase_isLetter_ok n (((List.getD a0 v4 0).toNat : Nat) : Int) y5 hy5) ?_
  refine rk 2 (.d2 (.k2 (.i 29 (vb (!(((decide ((97 : Int) ≤ (((List.getD a0 v4 0).toNat : Nat) : Int))) && (decide ((((List.getD a0 v4 0).toNat : Nat) : Int) ≤ (122 : Int)))) || ((decide ((65 : Int) ≤ (((List.getD a0 v4 0).toNat : Nat) : Int))) && (decide ((((List.getD a0 v4 0).toNat : Nat) : Int) ≤ (90 : Int))))))) .n))) ?_
  refine gj (vt a0) 30 (.mov 0) 29 true rfl ?_
  refine gj (vi v4) 31 (.mov 3) 29 true rfl ?_
  refine gv 32 (.sidx 30 31) 29 true rfl (fun hg => (ok_sidx_t (j := v4) rfl rfl rfl c3)) (fun hg => (.cons hg (.cons hg .nil))) ?_
  obtain ⟨y6, hy6, h⟩ := bs h
  refine gc 33 [32] 29 true rfl (fun hg => agraffebase_isDigit_ok n (((List.getD a0 v4 0).toNat : Nat) : Int) y6 (gcall_some hy6 hg)) (fun hg => (.cons rfl (.cons hg .nil))) (fun hg => by kernel_rfl) ?_
  refine gk (vb (!((decide ((48 : Int) ≤ (((List.getD a0 v4 0).toNat : Nat) : Int))) && (decide ((((List.getD a0 v4 0).toNat : Nat) : Int) ≤ (57 : Int)))))) 34 (.un .not 33) 29 true rfl (fun hg => (.cons hg .nil)) ?_
  refine pa 35 29 34 rfl rfl ?_
  refine rk 1 (.d4 (.d2 (.k2 (.i 30 (.cond (!(((decide ((97 : Int) ≤ (((List.getD a0 v4 0).toNat : Nat) : Int))) && (decide ((((List.getD a0 v4 0).toNat : Nat) : Int) ≤ (122 : Int)))) || ((decide ((65 : Int) ≤ (((List.getD a0 v4 0).toNat : Nat) : Int))) && (decide ((((List.getD a0 v4 0).toNat : Nat) : Int) ≤ (90 : Int)))))) (vt a0)) (.i 31 (.cond (!(((decide ((97 : Int) ≤ (((List.getD a0 v4 0).toNat : Nat) : Int))) && (decide ((((List.getD a0 v4 0).toNat : Nat) : Int) ≤ (122 : Int)))) || ((decide ((65 : Int) ≤ (((List.getD a0 v4 0).toNat : Nat) : Int))) && (decide ((((List.getD a0 v4 0).toNat : Nat) : Int) ≤ (90 : Int)))))) (vi v4)) (.i 32 (.cond (!(((decide ((97 : Int) ≤ (((List.getD a0 v4 0).toNat : Nat) : Int))) && (decide ((((List.getD a0 v4 0).toNat : Nat) : Int) ≤ (122 : Int)))) || ((decide ((65 : Int) ≤ (((List.getD a0 v4 0).toNat : Nat) : Int))) && (decide ((((List.getD a0 v4 0).toNat : Nat) : Int) ≤ (90 : Int)))))) (vk .u8 (((List.getD a0 v4 0).toNat : Nat) : Int))) (.i 33 (.cond (!(((decide ((97 : Int) ≤ (((List.getD a0 v4 0).toNat : Nat) : Int))) && (decide ((((List.getD a0 v4 0).toNat : Nat) : Int) ≤ (122 : Int)))) || ((decide ((65 : Int) ≤ (((List.getD a0 v4 0).toNat : Nat) : Int))) && (decide ((((List.getD a0 v4 0).toNat : Nat) : Int) ≤ (90 : Int)))))) (vb ((decide ((48 : Int) ≤ (((List.getD a0 v4 0).toNat : Nat) : Int))) && (decide ((((List.getD a0 v4 0).toNat : Nat) : Int) ≤ (57 : Int)))))) (.i 34 (.cond (!(((decide ((97 : Int) ≤ (((List.getD a0 v4 0).toNat : Nat) : Int))) && (decide ((((List.getD a0 v4 0).toNat : Nat) : Int) ≤ (122 : Int)))) || ((decide ((65 : Int) ≤ (((List.getD a0 v4 0).toNat : Nat) : Int))) && (decide ((((List.getD a0 v4 0).toNat : Nat) : Int) ≤ (90 : Int)))))) (vb (!((decide ((48 : Int) ≤ (((List.getD a0 v4 0).toNat : Nat) : Int))) && (decide ((((List.getD a0 v4 0).toNat : Nat) : Int) ≤ (57 : Int))))))) (.i 36 (vb ((!(((decide ((97 : Int) ≤ (((List.getD a0 v4 0).toNat : Nat) : Int))) && (decide ((((List.getD a0 v4 0).toNat : Nat) : Int) ≤ (122 : Int)))) || ((decide ((65 : Int) ≤ (((List.getD a0 v4 0).toNat : Nat) : Int))) && (decide ((((List.getD a0 v4 0).toNat : Nat) : Int) ≤ (90 : Int)))))) && (!((decide ((48 : Int) ≤ (((List.getD a0 v4 0).toNat : Nat) : Int))) && (decide ((((List.getD a0 v4 0).toNat : Nat) : Int) ≤ (57 : Int))))))) .n))))))))) ?_
  refine gj (vt a0) 37 (.mov 0) 36 true rfl ?_
  refine gj (vi v4) 38 (.mov 3) 36 true rfl ?_
  refine gv 39 (.sidx 37 38) 36 true rfl (fun hg => (ok_sidx_t (j := v4) rfl rfl rfl c3)) (fun hg => (.cons hg (.cons hg .nil))) ?_
  refine gk (vb ((((List.getD a0 v4 0).toNat : Nat) : Int) != (45 : Int))) 40 (.bin .neq false 39 (.c (.p (.int .u8 45)))) 36 true rfl (fun hg => (.cons hg (.cons rfl .nil))) ?_
  refine pa 41 36 40 rfl rfl ?_
  refine jf (.d4 (.d (.k2 (.i 41 (vb (((!(((decide ((97 : Int) ≤ (((List.getD a0 v4 0).toNat : Nat) : Int))) && (decide ((((List.getD a0 v4 0).toNat : Nat) : Int) ≤ (122 : Int)))) || ((decide ((65 : Int) ≤ (((List.getD a0 v4 0).toNat : Nat) : Int))) && (decide ((((List.getD a0 v4 0).toNat : Nat) : Int) ≤ (90 : Int)))))) && (!((decide ((48 : Int) ≤ (((List.getD a0 v4 0).toNat : Nat) : Int))) && (decide ((((List.getD a0 v4 0).toNat : Nat) : Int) ≤ (57 : Int)))))) && ((((List.getD a0 v4 0).toNat : Nat) : Int) != (45 : Int)))) .n)))) ?_
  refine tc h (fun c4 h => ?_) (fun c4 h => ?_)
  ·refine sk (.i 2 (vb false) .n) ?_
   refine q3 ?_
   have h := si h
   subst h
   exact DoneS.ret Sees.refl rfl rfl
  refine q2 ?_
  refine q6 ?_
  refine rk 1 (.k (.i 22 (vi v4) .n)) ?_
  obtain ⟨c5, h⟩ := ck h
  refine jo 23 (.bin .add false 22 (ki 1)) (r_addn (i := v4) (j := 1) rfl rfl c5) ?_
  refine jk 1 (.d (.k (.i 3 (vi ((v4 + 1 : Nat) : Int)) .n))) ?_
  exact Vs.intro sy ⟨(v4 + 1), rfl, h⟩
 refine q5 ?_
 exact Vs.intro sy ⟨(), rfl, h⟩
theorem agraffebase_Within_ok (n : Nat) (a0 : Int) (a1 : Int) (a2 : Int) (r : Unit) (h : agraffebase_Within n a0 a1 a2 = some r) : FnL Tryz.prog 90 [vi a0, vi a1, vi a2] [] (vb ((decide (a1 ≤ a0)) && (decide (a0 ≤ a2)))) [] := by
 dsimp only [agraffebase_Within] at h
 refine fo [6] Tryz.call90 Tryz.func90 rfl ?_
 refine sk .a ?_
 refine sj ?_
 refine rk 4 (.k (.d (.k (.i 10 (vb (decide (a1 ≤ a0))) .n)))) ?_
 refine gj (vi a0) 11 (.mov 0) 10 true rfl ?_
 refine gj (vi a2) 12 (.mov 2) 10 true rfl ?_
 refine gk (vb (decide (a0 ≤ a2))) 13 (.bin .leq false 11 12) 10 true rfl (fun hg => (.cons hg (.cons hg .nil))) ?_
 refine pa 14 10 13 rfl rfl ?_
 refine jk 1 (.i 6 (vb ((decide (a1 ≤ a0)) && (decide (a0 ≤ a2)))) .n) ?_
 refine q3 ?_
 have h := si h
 subst h
 exact DoneS.ret Sees.refl rfl rfl
theorem agraffebase_HasText_2_ok (n : Nat) (a0 : List Str) (a1 : Str) (r : Bool) (h : agraffebase_HasText_2 n a0 a1 = some r) : FnL Tryz.prog 74 [.own 0 0 a0.length, vt a1] [some (.row 1 (List.map vt a0))] (vb r) [some (.row 1 (List.map vt a0))] := by
 dsimp only [agraffebase_HasText_2] at h
 refine fob [4] Tryz.call74 Tryz.func74 rfl (.cons rfl .nil) ?_
 refine sk .a ?_
 refine TriE.seqK h (fun (_ : Unit) => St.mk [] [some (.row 1 (List.map vt a0))]) ?_ ?_
 ·rintro ⟨⟩ h
  refine sk (.i 4 (vb false) .n) ?_
  refine q3 ?_
  have h := si h
  subst h
  exact DoneS.ret Sees.refl rfl rfl
 intro k1 h
 refine sk (.k2 (.i 5 (vi 0) .n)) ?_
 refine q4 ?_
 refine ts (.k2 (.i 5 (vi 0) .n)) ?_
 refine TriE.loopN h (fun (v1 : Nat) => St.mk [(0, .own 0 0 a0.length), (1, vt a1), (5, vi v1)] [some (.row 1 (List.map vt a0))]) rfl ?_
 clear h
 rintro back v1 h
 dsimp only [agraffebase_HasText_2_L1] at h
 refine q1 ?_
 refine sj ?_
 refine rk 3 (.k3 (.i 6 (vi v1) (.i 8 (vi (a0.length : Int)) .n))) ?_
 refine jo 9 (.bin .lss false 6 8) (n_lss (i := v1) (j := a0.length) rfl rfl) ?_
 refine jf (.d (.k3 (.i 9 (vb (decide (v1 < a0.length))) .n))) ?_
 refine tc h (fun c1 h => ?_) (fun c1 h => ?_)
 ·refine q2 ?_
  refine q7 ?_
  refine sj ?_
  refine rk 2 (.k3 (.i 12 (.own 0 0 a0.length) (.i 13 (vi v1) .n))) ?_
  refine jo 14 (.iaddr 1 12 13) (ok_iaddr_o0 (j := v1) rfl rfl rfl rfl c1) ?_
  refine jo 15 (.load false 1 14) (ok_load_pm (l := a0) (e := vt) (v := vt (ix a0 v1)) rfl rfl c1 rfl) ?_
  refine jk 2 (.d2 (.k3 (.i 17 (vb ((ix a0 v1) == a1)) .n))) ?_
  refine tc h (fun c2 h => ?_) (fun c2 h => ?_)
  ·refine sk (.i 4 (vb true) .n) ?_
   refine q3 ?_
   have h := si h
   subst h
   exact DoneS.ret Sees.refl rfl rfl
  refine q2 ?_
  refine q6 ?_
  refine rk 1 (.k2 (.i 10 (vi v1) .n)) ?_
  obtain ⟨c3, h⟩ := ck h
  refine jo 11 (.bin .add false 10 (ki 1)) (r_addn (i := v1) (j := 1) rfl rfl c3) ?_
  refine jk 1 (.d (.k2 (.i 5 (vi ((v1 + 1 : Nat) : Int)) .n))) ?_
  exact Vs.intro sy ⟨(v1 + 1), rfl, h⟩
 refine q5 ?_
 exact Vs.intro sy ⟨(), rfl, h⟩
set_option maxHeartbeats 1000000 in
theorem agraffelaw08_places_ok (n : Nat) (a0 : List WantedPart) (a1 : List OfferedPart) (r : Bool) (h : agraffelaw08_places n a0 a1 = some r) : FnL Tryz.prog 49 [eS 2 eWantedPart a0, eS 2 eOfferedPart a1] [] (vb r) [] := by
 dsimp only [agraffelaw08_places] at h
 refine fo [4] Tryz.call49 Tryz.func49 rfl ?_
 refine sk .a ?_
 refine q1 ?_
 refine sj ?_
 refine rk 1 (.k2 (.i 7 (eS 2 eWantedPart a0) .n)) ?_
 refine jo 8 (.len 0 7) (ok_len_m rfl) ?_
 refine jo 9 (.bin .gtr false 8 (ki 8)) (n_gtr (i := a0.length) (j := 8) rfl rfl) ?_
 refine rk 1 (.d2 (.k2 (.i 10 (vb (decide (8 < a0.length))) .n))) ?_
 refine gj (eS 2 eWantedPart a0) 11 (.mov 0) 10 true rfl ?_
 refine gv 12 (.len 0 11) 10 true rfl (fun hg => (ok_len_m rfl)) (fun hg => (.cons hg .nil)) ?_
 refine gv 13 (.bin .leq false 12 (ki 40)) 10 true rfl (fun hg => (n_leq (i := a0.length) (j := 40) rfl rfl)) (fun hg => (.cons hg (.cons rfl .nil))) ?_
 refine pa 14 10 13 rfl rfl ?_
 refine rk 1 (.d4 (.k2 (.i 15 (vb ((decide (8 < a0.length)) && (decide (a0.length ≤ 40)))) .n))) ?_
 refine gj (eS 2 eWantedPart a0) 16 (.mov 0) 15 false rfl ?_
 refine gv 17 (.len 0 16) 15 false rfl (fun hg => (ok_len_m rfl)) (fun hg => (.cons hg .nil)) ?_
 refine gv 18 (.bin .gtr false 17 (ki 43)) 15 false rfl (fun hg => (n_gtr (i := a0.length) (j := 43) rfl rfl)) (fun hg => (.cons hg (.cons rfl .nil))) ?_
 refine po 19 15 18 rfl rfl ?_
 refine rk 1 (.d4 (.k2 (.i 20 (vb (((decide (8 < a0.length)) && (decide (a0.length ≤ 40))) || (decide (43 < a0.length)))) .n))) ?_
 refine gj (eS 2 eOfferedPart a1) 21 (.mov 1) 20 false rfl ?_
 refine gv 22 (.len 0 21) 20 false rfl (fun hg => (ok_len_m rfl)) (fun hg => (.cons hg .nil)) ?_
 refine gv 23 (.bin .gtr false 22 (ki 8)) 20 false rfl (fun hg => (n_gtr (i := a1.length) (j := 8) rfl rfl)) (fun hg => (.cons hg (.cons rfl .nil))) ?_
 refine gk (vb (decide (8 < a1.length))) 24 (.mov 23) 20 false rfl (fun hg => (.cons hg .nil)) ?_
 refine gj (eS 2 eOfferedPart a1) 25 (.mov 1) 24 true rfl ?_
 refine gv 26 (.len 0 25) 24 true rfl (fun hg => (ok_len_m rfl)) (fun hg => (.cons hg .nil)) ?_
 refine gv 27 (.bin .leq false 26 (ki 40)) 24 true rfl (fun hg => (n_leq (i := a1.length) (j := 40) rfl rfl)) (fun hg => (.cons hg (.cons rfl .nil))) ?_
 refine RegJ.op (Op1.andg (g := !(((decide (8 < a0.length)) && (decide (a0.length ≤ 40))) || (decide (43 < a0.length)))) (cy (IG 28 (.pick 24 27 (.c (.p (.bool false)))) 20 false)) rfl rfl rfl (fun hg => by first | exact hokA2 hg | exact hokA3 hg | exact hokA1 | exact hokA0 | (rw [hg]; simp) | simp_all)) ?_
 refine po 29 20 28 rfl rfl ?_
 refine rk 1 (.d4 (.d4 (.d (.k2 (.i 30 (vb ((((decide (8 < a0.length)) && (decide (a0.length ≤ 40))) || (decide (43 < a0.length))) || ((decide (8 < a1.length)) && (decide (a1.length ≤ 40))))) .n))))) ?_
 refine gj (eS 2 eOfferedPart a1) 31 (.mov 1) 30 false rfl ?_
 refine gv 32 (.len 0 31) 30 false rfl (fun hg => (ok_len_m rfl)) (fun hg => (.cons hg .nil)) ?_
 refine gv 33 (.bin .gtr false 32 (ki 43)) 30 false rfl (fun hg => (n_gtr (i := a1.length) (j := 43) rfl rfl)) (fun hg => (.cons hg (.cons rfl .nil))) ?_
 refine po 34 30 33 rfl rfl ?_
 refine jf (.d4 (.k2 (.i 34 (vb (((((decide (8 < a0.length)) && (decide (a0.length ≤ 40))) || (decide (43 < a0.length))) || ((decide (8 < a1.length)) && (decide (a1.length ≤ 40)))) || (decide (43 < a1.length)))) .n))) ?_
 refine tc h (fun c1 h => ?_) (fun c1 h => ?_)
 ·refine sk (.i 4 (vb false) .n) ?_
  refine q3 ?_
  have h := si h
  subst h
  exact DoneS.ret Sees.refl rfl rfl
 refine q2 ?_
 refine TriE.seqK h (fun (_ : Unit) => St.mk [(1, eS 2 eOfferedPart a1)] []) ?_ ?_
 ·rintro ⟨⟩ h
  refine TriE.seqK h (fun (_ : Unit) => St.mk [] []) ?_ ?_
  ·rintro ⟨⟩ h
   refine sk (.i 4 (vb true) .n) ?_
   refine q3 ?_
   have h := si h
   subst h
   exact DoneS.ret Sees.refl rfl rfl
  intro k2 h
  refine sk (.k (.i 6 (vi 0) .n)) ?_
  refine q4 ?_
  refine ts (.k (.i 6 (vi 0) .n)) ?_
  refine TriE.loopN h (fun (v2 : Nat) => St.mk [(1, eS 2 eOfferedPart a1), (6, vi v2)] []) rfl ?_
  clear h
  rintro back v2 h
  dsimp only [agraffelaw08_places_L2] at h
  refine q1 ?_
  refine sj ?_
  refine rk 2 (.k2 (.i 57 (vi v2) (.i 58 (eS 2 eOfferedPart a1) .n))) ?_
  refine jo 59 (.len 0 58) (ok_len_m rfl) ?_
  refine jo 60 (.bin .lss false 57 59) (n_lss (i := v2) (j := a1.length) rfl rfl) ?_
  refine jf (.d2 (.k2 (.i 60 (vb (decide (v2 < a1.length))) .n))) ?_
  refine tc h (fun c5 h => ?_) (fun c5 h => ?_)
  ·refine q2 ?_
   refine q7 ?_
   refine sj ?_
   refine rk 2 (.k2 (.i 63 (eS 2 eOfferedPart a1) (.i 64 (vi v2) .n))) ?_
   refine jo 65 (.iaddr 2 63 64) (ok_iaddr_m (j := v2) rfl rfl rfl c5) ?_
   refine rk 1 (.d (.k2 (.i 66 (.fptr 2 (List.map eOfferedPart a1) v2 0) .n))) ?_
   refine jo 67 (.load false 1 66) (ok_load_fm (v := vt ((ix a1 v2).Name)) rfl c5 rfl) ?_
   refine jo 68 (.len 1 67) (ok_len_t rfl) ?_
   refine jo 69 (.bin .gtr false 68 (ki 20)) (n_gtr (i := ((ix a1 v2).Name).length) (j := 20) rfl rfl) ?_
   refine rk 1 (.d3 (.k2 (.i 70 (vb (decide (20 < (((ix a1 v2).Name).length)))) .n))) ?_
   refine gj (eS 2 eOfferedPart a1) 71 (.mov 1) 70 false rfl ?_
   refine gj (vi v2) 72 (.mov 6) 70 false rfl ?_
   refine gv 73 (.iaddr 2 71 72) 70 false rfl (fun hg => (ok_iaddr_m (j := v2) rfl rfl rfl c5)) (fun hg => (.cons hg (.cons hg .nil))) ?_
   refine gk (.fptr 2 (List.map eOfferedPart a1) v2 1) 74 (.faddr 1 73) 70 false rfl (fun hg => (.cons hg .nil)) ?_
   refine gv 75 (.load false 1 74) 70 false rfl (fun hg => (ok_load_fm (v := eS 1 vi ((ix a1 v2).Sizes)) rfl c5 rfl)) (fun hg => (.cons hg .nil)) ?_
   refine gv 76 (.len 0 75) 70 false rfl (fun hg => (ok_len_m rfl)) (fun hg => (.cons hg .nil)) ?_
   refine gv 77 (.bin .gtr false 76 (ki 8)) 70 false rfl (fun hg => (n_gtr (i := ((ix a1 v2).Sizes).length) (j := 8) rfl rfl)) (fun hg => (.cons hg (.cons rfl .nil))) ?_
   refine po 78 70 77 rfl rfl ?_
   refine jf (.d4 (.d4 (.k2 (.i 78 (vb ((decide (20 < (((ix a1 v2).Name).length))) || (decide (8 < (((ix a1 v2).Sizes).length))))) .n)))) ?_
   refine tc h (fun c6 h => ?_) (fun c6 h => ?_)
   ·refine sk (.i 4 (vb false) .n) ?_
    refine q3 ?_
    have h := si h
    subst h
    exact DoneS.ret Sees.refl rfl rfl
   refine q2 ?_
   refine q6 ?_
   refine rk 1 (.k (.i 61 (vi v2) .n)) ?_
   obtain ⟨c7, h⟩ := ck h
   refine jo 62 (.bin .add false 61 (ki 1)) (r_addn (i := v2) (j := 1) rfl rfl c7) ?_
   refine jk 1 (.d (.k (.i 6 (vi ((v2 + 1 : Nat) : Int)) .n))) ?_
   exact Vs.intro sy ⟨(v2 + 1), rfl, h⟩
  refine q5 ?_
  exact Vs.intro sy ⟨(), rfl, h⟩
 intro k1 h
 refine sk (.k2 (.i 5 (vi 0) .n)) ?_
 refine q4 ?_
 refine ts (.k2 (.i 5 (vi 0) .n)) ?_
 refine TriE.loopN h (fun (v1 : Nat) => St.mk [(0, eS 2 eWantedPart a0), (1, eS 2 eOfferedPart a1), (5, vi v1)] []) rfl ?_
 clear h
 rintro back v1 h
 dsimp only [agraffelaw08_places_L1] at h
 refine q1 ?_
 refine sj ?_
 refine rk 2 (.k3 (.i 35 (vi v1) (.i 36 (eS 2 eWantedPart a0) .n))) ?_
 refine jo 37 (.len 0 36) (ok_len_m rfl) ?_
 refine jo 38 (.bin .lss false 35 37) (n_lss (i := v1) (j := a0.length) rfl rfl) ?_
 refine jf (.d2 (.k3 (.i 38 (vb (decide (v1 < a0.length))) .n))) ?_
 refine tc h (fun c2 h => ?_) (fun c2 h => ?_)
 ·refine q2 ?_
  refine q7 ?_
  refine sj ?_
  refine rk 2 (.k3 (.i 41 (eS 2 eWantedPart a0) (.i 42 (vi v1) .n))) ?_
  refine jo 43 (.iaddr 2 41 42) (ok_iaddr_m (j := v1) rfl rfl rfl c2) ?_
  refine rk 1 (.d (.k3 (.i 44 (.fptr 2 (List.map eWantedPart a0) v1 0) .n))) ?_
  refine jo 45 (.load false 1 44) (ok_load_fm (v := vt ((ix a0 v1).Name)) rfl c2 rfl) ?_
  refine jo 46 (.len 1 45) (ok_len_t rfl) ?_
  refine jo 47 (.bin .gtr false 46 (ki 20)) (n_gtr (i := ((ix a0 v1).Name).length) (j := 20) rfl rfl) ?_
  refine rk 1 (.d3 (.k3 (.i 48 (vb (decide (20 < (((ix a0 v1).Name).length)))) .n))) ?_
  refine gj (eS 2 eWantedPart a0) 49 (.mov 0) 48 false rfl ?_
  refine gj (vi v1) 50 (.mov 5) 48 false rfl ?_
  refine gv 51 (.iaddr 2 49 50) 48 false rfl (fun hg => (ok_iaddr_m (j := v1) rfl rfl rfl c2)) (fun hg => (.cons hg (.cons hg .nil))) ?_
  refine gk (.fptr 2 (List.map eWantedPart a0) v1 1) 52 (.faddr 1 51) 48 false rfl (fun hg => (.cons hg .nil)) ?_
  refine gv 53 (.load false 1 52) 48 false rfl (fun hg => (ok_load_fm (v := eS 2 eRange ((ix a0 v1).Ranges)) rfl c2 rfl)) (fun hg => (.cons hg .nil)) ?_
  refine gv 54 (.len 0 53) 48 false rfl (fun hg => (ok_len_m rfl)) (fun hg => (.cons hg .nil)) ?_
  refine gv 55 (.bin .gtr false 54 (ki 8)) 48 false rfl (fun hg => (n_gtr (i := ((ix a0 v1).Ranges).length) (j := 8) rfl rfl)) (fun hg => (.cons hg (.cons rfl .nil))) ?_
  refine po 56 48 55 rfl rfl ?_
  refine jf (.d4 (.d4 (.k3 (.i 56 (vb ((decide (20 < (((ix a0 v1).Name).length))) || (decide (8 < (((ix a0 v1).Ranges).length))))) .n)))) ?_
  refine tc h (fun c3 h => ?_) (fun c3 h => ?_)
  ·refine sk (.i 4 (vb false) .n) ?_
   refine q3 ?_
   have h := si h
   subst h
   exact DoneS.ret Sees.refl rfl rfl
  refine q2 ?_
  refine q6 ?_
  refine rk 1 (.k2 (.i 39 (vi v1) .n)) ?_
  obtain ⟨c4, h⟩ := ck h
  refine jo 40 (.bin .add false 39 (ki 1)) (r_addn (i := v1) (j := 1) rfl rfl c4) ?_
  refine jk 1 (.d (.k2 (.i 5 (vi ((v1 + 1 : Nat) : Int)) .n))) ?_
  exact Vs.intro sy ⟨(v1 + 1), rfl, h⟩
 refine q5 ?_
 exact Vs.intro sy ⟨(), rfl, h⟩
theorem agraffelaw08_wanted_ok (n : Nat) (a0 : List WantedPart) (r : (List WantedPart)) (h : agraffelaw08_wanted n a0 = some r) : FnL Tryz.prog 51 [eS 2 eWantedPart a0] [] (eS 2 eWantedPart r) [] := by
 dsimp only [agraffelaw08_wanted] at h
 refine fo [2] Tryz.call51 Tryz.func51 rfl ?_
 refine sk .a ?_
 refine sj ?_
 refine rk 2 (.i 5 .emp (.i 6 (eS 2 eWantedPart a0) .n)) ?_
 obtain ⟨c1, h⟩ := ck h
 refine jx 7 (.app 2 40 5 6) _ (ok_app_emp (e := eWantedPart) (l := a0) (u := eS 2 eWantedPart a0) rfl rfl els_sl c1) rfl rfl ?_
 refine jk 1 (.i 3 (.own 0 0 a0.length) .n) ?_
 refine TriE.seqK h (fun (v3 : (List WantedPart)) => St.mk [(3, .own 0 0 v3.length)] [some (.row 2 (List.map eWantedPart v3))]) ?_ ?_
 ·rintro v3 h
  refine sk (.i 2 (.own 0 0 v3.length) .n) ?_
  refine q3 ?_
  have h := si h
  subst h
  exact DoneS.ret (S' := ⟨[(2, eS 2 eWantedPart v3)], []⟩) (Sees.trans (Sees.freeze 0 (fr' := [(2, eS 2 eWantedPart v3)]) (ob' := [none]) rfl (frz_row eWantedPart_frzE _) (.cons (frz_full rfl) .nil) rfl) (sc [] (by decide) (by kernel_rfl) ObRen.nil rfl rfl)) rfl rfl
 intro k1 h
 refine sk (.k (.i 4 (vi 0) .n)) ?_
 refine q4 ?_
 refine ts (.k (.i 4 (vi 0) .n)) ?_
 refine TriE.loopN h (fun (t : Nat × (List WantedPart)) => match t with | (v1, v2) => St.mk [(3, .own 0 0 v2.length), (4, vi v1)] [some (.row 2 (List.map eWantedPart v2))]) rfl ?_
 clear h
 rintro back ⟨v1, v2⟩ h
 dsimp only [agraffelaw08_wanted_L1] at h
 refine q1 ?_
 refine sj ?_
 refine rk 3 (.k2 (.i 8 (vi v1) (.i 10 (vi (v2.length : Int)) .n))) ?_
 refine jo 11 (.bin .lss false 8 10) (n_lss (i := v1) (j := v2.length) rfl rfl) ?_
 refine jf (.d (.k2 (.i 11 (vb (decide (v1 < v2.length))) .n))) ?_
 refine tc h (fun c2 h => ?_) (fun c2 h => ?_)
 ·refine q2 ?_
  refine q7 ?_
  refine q6 ?_
  refine rk 5 (.k2 (.i 14 (.own 0 0 v2.length) (.i 15 (vi v1) (.i 16 .emp (.i 17 (.own 0 0 v2.length) (.i 18 (vi v1) .n)))))) ?_
  refine jo 19 (.iaddr 2 17 18) (ok_iaddr_o0 (j := v1) rfl rfl rfl rfl c2) ?_
  refine rk 1 (.d (.k4 (.k (.i 20 (.ptr 0 v1 1) .n)))) ?_
  refine jo 21 (.load false 1 20) (ok_load_pm (l := v2) (e := eWantedPart) (v := eS 2 eRange ((ix v2 v1).Ranges)) rfl rfl c2 rfl) ?_
  obtain ⟨c3, h⟩ := ck h
  refine jx 22 (.app 2 16 16 21) _ (ok_app_emp (e := eRange) (l := (ix v2 v1).Ranges) (u := eS 2 eRange ((ix v2 v1).Ranges)) rfl rfl els_sl c3) rfl rfl ?_
  refine jo 23 (.iaddr 2 14 15) (ok_iaddr_o0 (j := v1) rfl rfl rfl rfl c2) ?_
  refine rk 1 (.d3 (.k2 (.i 22 (.own 1 0 (((ix v2 v1).Ranges).length)) (.i 24 (.ptr 0 v1 1) .n)))) ?_
  refine RegJ.sees (Sees.freeze 1 (fr' := [(3, .own 0 0 v2.length), (4, vi v1), (22, eS 2 eRange ((ix v2 v1).Ranges)), (24, .ptr 0 v1 1)]) (ob' := [some (.row 2 (List.map eWantedPart v2)), none]) rfl (frz_row eRange_frzE _) (.cons (.refl _) (.cons (.refl _) (.cons (frz_full rfl) (.cons (.refl _) .nil)))) rfl) ?_
  refine jn (.store 1 24 22) _ (ok_store_m (l := v2) (e := eWantedPart) (x' := (ix v2 v1)) (u := eS 2 eRange ((ix v2 v1).Ranges)) rfl rfl rfl c2 rfl rfl) rfl rfl ?_
  refine jf (.k2 .n) ?_
  refine q6 ?_
  refine rk 1 (.k (.i 12 (vi v1) .n)) ?_
  obtain ⟨c4, h⟩ := ck h
  refine jo 13 (.bin .add false 12 (ki 1)) (r_addn (i := v1) (j := 1) rfl rfl c4) ?_
  refine jk 1 (.d (.k (.i 4 (vi ((v1 + 1 : Nat) : Int)) .n))) ?_
  exact Vs.intro (Sees.cov (Cov.mk2 (rs := [0]) (by decide) rfl rfl (.cons (.inl (by simp only [List.length_set]; rfl)) (.cons (.inl rfl) .nil)) (obRen_row eWantedPart_frz rfl .nil))) ⟨(v1 + 1, (List.set v2 v1 (ix v2 v1))), rfl, h⟩
 refine q5 ?_
 exact Vs.intro sy ⟨v2, rfl, h⟩
theorem agraffebase_CopyInts_ok (n : Nat) (a0 : List Int) (r : Unit) (h : agraffebase_CopyInts n a0 = some r) : FnL Tryz.prog 53 [eS 1 vi a0] [] (.own 0 0 a0.length) [some (.row 1 (List.map vi a0))] := by
 dsimp only [agraffebase_CopyInts] at h
 refine fo [2] Tryz.call53 Tryz.func53 rfl ?_
 refine sk .a ?_
 refine sj ?_
 refine rk 2 (.i 3 .emp (.i 4 (eS 1 vi a0) .n)) ?_
 obtain ⟨c1, h⟩ := ck h
 refine jx 5 (.app 1 8 3 4) _ (ok_app_emp (e := vi) (l := a0) (u := eS 1 vi a0) rfl rfl els_sl c1) rfl rfl ?_
 refine jk 1 (.i 2 (.own 0 0 a0.length) .n) ?_
 refine q3 ?_
 have h := si h
 subst h
 exact DoneS.ret Sees.refl rfl rfl
theorem agraffelaw08_offered_ok (n : Nat) (a0 : List OfferedPart) (r : (List OfferedPart)) (h : agraffelaw08_offered n a0 = some r) : FnL Tryz.prog 52 [eS 2 eOfferedPart a0] [] (eS 2 eOfferedPart r) [] := by
 dsimp only [agraffelaw08_offered] at h
 refine fo [2] Tryz.call52 Tryz.func52 rfl ?_
 refine sk .a ?_
 refine sj ?_
 refine rk 2 (.i 5 .emp (.i 6 (eS 2 eOfferedPart a0) .n)) ?_
 obtain ⟨c1, h⟩ := ck h
 refine jx 7 (.app 2 40 5 6) _ (ok_app_emp (e := eOfferedPart) (l := a0) (u := eS 2 eOfferedPart a0) rfl rfl els_sl c1) rfl rfl ?_
 refine jk 1 (.i 3 (.own 0 0 a0.length) .n) ?_
 refine TriE.seqK h (fun (v5 : (List OfferedPart)) => St.mk [(3, .own 0 0 v5.length)] [some (.row 2 (List.map eOfferedPart v5))]) ?_ ?_
 ·rintro v5 h
  refine sk (.i 2 (.own 0 0 v5.length) .n) ?_
  refine q3 ?_
  have h := si h
  subst h
  exact DoneS.ret (S' := ⟨[(2, eS 2 eOfferedPart v5)], []⟩) (Sees.trans (Sees.freeze 0 (fr' := [(2, eS 2 eOfferedPart v5)]) (ob' := [none]) rfl (frz_row eOfferedPart_frzE _) (.cons (frz_full rfl) .nil) rfl) (sc [] (by decide) (by kernel_rfl) ObRen.nil rfl rfl)) rfl rfl
 intro k1 h
 refine sk (.k (.i 4 (vi 0) .n)) ?_
 refine q4 ?_
 refine ts (.k (.i 4 (vi 0) .n)) ?_
 refine TriE.loopN h (fun (t : Nat × (List OfferedPart)) => match t with | (v2, v3) => St.mk [(3, .own 0 0 v3.length), (4, vi v2)] [some (.row 2 (List.map eOfferedPart v3))]) rfl ?_
 clear h
 rintro back ⟨v2, v3⟩ h
 dsimp only [agraffelaw08_offered_L1] at h
 refine q1 ?_
 refine sj ?_
 refine rk 3 (.k2 (.i 8 (vi v2) (.i 10 (vi (v3.length : Int)) .n))) ?_
 refine jo 11 (.bin .lss false 8 10) (n_lss (i := v2) (j := v3.length) rfl rfl) ?_
 refine jf (.d (.k2 (.i 11 (vb (decide (v2 < v3.length))) .n))) ?_
 refine tc h (fun c2 h => ?_) (fun c2 h => ?_)
 ·refine q2 ?_
  refine q7 ?_
  refine q6 ?_
  refine rk 4 (.k2 (.i 14 (.own 0 0 v3.length) (.i 15 (vi v2) (.i 16 (.own 0 0 v3.length) (.i 17 (vi v2) .n))))) ?_
  refine jo 18 (.iaddr 2 16 17) (ok_iaddr_o0 (j := v2) rfl rfl rfl rfl c2) ?_
  refine rk 1 (.d (.k4 (.i 19 (.ptr 0 v2 1) .n))) ?_
  refine jo 20 (.load false 1 19) (ok_load_pm (l := v3) (e := eOfferedPart) (v := eS 1 vi ((ix v3 v2).Sizes)) rfl rfl c2 rfl) ?_
  obtain ⟨y4, hy4, h⟩ := bs h
  refine jco (.own 1 0 (((ix v3 v2).Sizes).length)) 21 [20] (agraffebase_CopyInts_ok n ((ix v3 v2).Sizes) y4 hy4) [] rfl ObsRen.nil (.same (row_ren vi_frz _ _ _) .nil) rfl ?_
  refine jo 22 (.iaddr 2 14 15) (ok_iaddr_o0 (j := v2) rfl rfl rfl rfl c2) ?_
  refine rk 1 (.d3 (.k2 (.i 21 (.own 1 0 (((ix v3 v2).Sizes).length)) (.i 23 (.ptr 0 v2 1) .n)))) ?_
  refine RegJ.sees (Sees.freeze 1 (fr' := [(3, .own 0 0 v3.length), (4, vi v2), (21, eS 1 vi ((ix v3 v2).Sizes)), (23, .ptr 0 v2 1)]) (ob' := [some (.row 2 (List.map eOfferedPart v3)), none]) rfl (frz_row vi_frzE _) (.cons (.refl _) (.cons (.refl _) (.cons (frz_full rfl) (.cons (.refl _) .nil)))) rfl) ?_
  refine jn (.store 1 23 21) _ (ok_store_m (l := v3) (e := eOfferedPart) (x' := (ix v3 v2)) (u := eS 1 vi ((ix v3 v2).Sizes)) rfl rfl rfl c2 rfl rfl) rfl rfl ?_
  refine jf (.k2 .n) ?_
  refine q6 ?_
  refine rk 1 (.k (.i 12 (vi v2) .n)) ?_
  obtain ⟨c3, h⟩ := ck h
  refine jo 13 (.bin .add false 12 (ki 1)) (r_addn (i := v2) (j := 1) rfl rfl c3) ?_
  refine jk 1 (.d (.k (.i 4 (vi ((v2 + 1 : Nat) : Int)) .n))) ?_
  exact Vs.intro (Sees.cov (Cov.mk2 (rs := [0]) (by decide) rfl rfl (.cons (.inl (by simp only [List.length_set]; rfl)) (.cons (.inl rfl) .nil)) (obRen_row eOfferedPart_frz rfl .nil))) ⟨(v2 + 1, (List.set v3 v2 (ix v3 v2))), rfl, h⟩
 refine q5 ?_
 exact Vs.intro sy ⟨v3, rfl, h⟩
theorem agraffebase_CopyInts_2_ok (n : Nat) (a0 : List Int) (r : Unit) (h : agraffebase_CopyInts_2 n a0 = some r) : FnL Tryz.prog 53 [eS 1 vi a0] [] (eS 1 vi a0) [] := by
 dsimp only [agraffebase_CopyInts_2] at h
 refine fo [2] Tryz.call53 Tryz.func53 rfl ?_
 refine sk .a ?_
 refine sj ?_
 refine rk 2 (.i 3 .emp (.i 4 (eS 1 vi a0) .n)) ?_
 obtain ⟨c1, h⟩ := ck h
 refine jx 5 (.app 1 8 3 4) _ (ok_app_emp (e := vi) (l := a0) (u := eS 1 vi a0) rfl rfl els_sl c1) rfl rfl ?_
 refine jk 1 (.i 2 (.own 0 0 a0.length) .n) ?_
 refine q3 ?_
 have h := si h
 subst h
 exact DoneS.ret (S' := ⟨[(2, eS 1 vi a0)], []⟩) (Sees.trans (Sees.freeze 0 (fr' := [(2, eS 1 vi a0)]) (ob' := [none]) rfl (frz_row vi_frzE _) (.cons (frz_full rfl) .nil) rfl) (sc [] (by decide) (by kernel_rfl) ObRen.nil rfl rfl)) rfl rfl
theorem restore_checkBoth_f1_ok (n : Nat) (a0 : WantedPart) (r : Unit) (h : restore_checkBoth_f1 n a0 = some r) : FnL Tryz.prog 167 [.agg [vt a0.Name, eS 2 eRange a0.Ranges]] [] (vt a0.Name) [] := by
 dsimp only [restore_checkBoth_f1] at h
 refine fo [2] Tryz.call167 Tryz.func167 rfl ?_
 refine sko (.i 1 (.ptr 0 0 0) .n) [some (.row 2 [.agg [vt a0.Name, eS 2 eRange a0.Ranges]])] ?_
 refine sk (.i 2 (vt a0.Name) .n) ?_
 refine q3 ?_
 have h := si h
 subst h
 exact DoneS.ret (S' := ⟨[(2, vt a0.Name)], []⟩) (sc [] (by decide) (by kernel_rfl) ObRen.nil rfl rfl) rfl rfl
theorem restore_checkRanges_f1_ok (n : Nat) (a0 : Range) (r : Unit) (h : restore_checkRanges_f1 n a0 = some r) : FnL Tryz.prog 199 [.agg [vi a0.Lo, vi a0.Hi]] [] (vb (((decide (a0.Lo < (0 : Int))) || (decide (a0.Hi < a0.Lo))) || (decide ((1000000 : Int) < a0.Hi)))) [] := by
 dsimp only [restore_checkRanges_f1] at h
 refine fo [2] Tryz.call199 Tryz.func199 rfl ?_
 refine sko (.i 1 (.ptr 0 0 0) .n) [some (.row 2 [.agg [vi a0.Lo, vi a0.Hi]])] ?_
 refine sj ?_
 refine rk 4 (.k (.i 6 (vb (decide (a0.Lo < (0 : Int)))) .n)) ?_
 refine gj (.ptr 0 0 0) 7 (.faddr 0 1) 6 false rfl ?_
 refine gk (vi a0.Lo) 8 (.load false 1 7) 6 false rfl (fun hg => (.cons hg .nil)) ?_
 refine gj (.ptr 0 0 1) 9 (.faddr 1 1) 6 false rfl ?_
 refine gk (vi a0.Hi) 10 (.load false 1 9) 6 false rfl (fun hg => (.cons hg .nil)) ?_
 refine gk (vb (decide (a0.Hi < a0.Lo))) 11 (.bin .gtr false 8 10) 6 false rfl (fun hg => (.cons hg (.cons hg .nil))) ?_
 refine po 12 6 11 rfl rfl ?_
 refine rk 1 (.d4 (.d2 (.k (.i 13 (vb ((decide (a0.Lo < (0 : Int))) || (decide (a0.Hi < a0.Lo)))) .n)))) ?_
 refine gj (.ptr 0 0 1) 14 (.faddr 1 1) 13 false rfl ?_
 refine gk (vi a0.Hi) 15 (.load false 1 14) 13 false rfl (fun hg => (.cons hg .nil)) ?_
 refine gk (vb (decide ((1000000 : Int) < a0.Hi))) 16 (.bin .gtr false 15 (ki 1000000)) 13 false rfl (fun hg => (.cons hg (.cons rfl .nil))) ?_
 refine po 17 13 16 rfl rfl ?_
 refine jk 1 (.i 2 (vb (((decide (a0.Lo < (0 : Int))) || (decide (a0.Hi < a0.Lo))) || (decide ((1000000 : Int) < a0.Hi)))) .n) ?_
 refine q3 ?_
 have h := si h
 subst h
 exact DoneS.ret (S' := ⟨[(2, vb (((decide (a0.Lo < (0 : Int))) || (decide (a0.Hi < a0.Lo))) || (decide ((1000000 : Int) < a0.Hi))))], []⟩) (sc [] (by decide) (by kernel_rfl) ObRen.nil rfl rfl) rfl rfl
theorem slices_IndexFunc_Range_ok (n : Nat) (a0 : List Range) (r : Int) (h : slices_IndexFunc_Range n a0 = some r) : FnL Tryz.prog 220 [eS 2 eRange a0, .fn (.func 199) [] []] [] (vi r) [] := by
 dsimp only [slices_IndexFunc_Range] at h
 refine fo [4] Tryz.call220 Tryz.func220 rfl ?_
 refine sk .a ?_
 refine TriE.seqK h (fun (_ : Unit) => St.mk [] []) ?_ ?_
 ·rintro ⟨⟩ h
  refine sk (.i 4 (vi (-1)) .n) ?_
  refine q3 ?_
  have h := si h
  subst h
  exact DoneS.ret Sees.refl rfl rfl
 intro k1 h
 refine sj ?_
 refine rk 1 (.k2 (.i 6 (eS 2 eRange a0) .n)) ?_
 refine jo 7 (.len 0 6) (ok_len_m rfl) ?_
 refine jk 1 (.d (.k2 (.i 7 (vi (a0.length : Int)) (.i 8 (vi 0) .n)))) ?_
 refine q4 ?_
 refine ts (.k3 (.i 8 (vi 0) .n)) ?_
 refine TriE.loopN h (fun (v2 : Nat) => St.mk [(0, eS 2 eRange a0), (1, .fn (.func 199) [] []), (7, vi (a0.length : Int)), (8, vi v2)] []) rfl ?_
 clear h
 rintro back v2 h
 dsimp only [slices_IndexFunc_Range_L1] at h
 refine sj ?_
 refine jo 9 (.bin .lss false 8 7) (n_lss (i := v2) (j := a0.length) rfl rfl) ?_
 refine jf (.d (.k4 (.i 9 (vb (decide (v2 < a0.length))) .n))) ?_
 refine q1 ?_
 refine tc h (fun c1 h => ?_) (fun c1 h => ?_)
 ·refine q2 ?_
  refine q7 ?_
  refine sk (.k4 (.i 5 (vi v2) .n)) ?_
  refine sj ?_
  refine rk 3 (.k4 (.k (.i 11 (.fn (.func 199) [] []) (.i 12 (eS 2 eRange a0) (.i 13 (vi v2) .n))))) ?_
  refine jo 14 (.iaddr 2 12 13) (ok_iaddr_m (j := v2) rfl rfl rfl c1) ?_
  refine jo 15 (.load true 2 14) (ok_load_fm (v := .agg [vi ((ix a0 v2).Lo), vi ((ix a0 v2).Hi)]) rfl c1 rfl) ?_
  obtain ⟨y3, hy3, h⟩ := bs h
  refine jy (vb (((decide ((ix a0 v2).Lo < (0 : Int))) || (decide ((ix a0 v2).Hi < (ix a0 v2).Lo))) || (decide ((1000000 : Int) < (ix a0 v2).Hi)))) 16 11 [15] rfl (restore_checkRanges_f1_ok n (ix a0 v2) y3 hy3) [] rfl ObsRen.nil ObsRen.nil rfl ?_
  refine jf (.d3 (.k4 (.k (.i 16 (vb (((decide ((ix a0 v2).Lo < (0 : Int))) || (decide ((ix a0 v2).Hi < (ix a0 v2).Lo))) || (decide ((1000000 : Int) < (ix a0 v2).Hi)))) .n)))) ?_
  refine tc h (fun c2 h => ?_) (fun c2 h => ?_)
  ·refine sk (.i 4 (vi v2) .n) ?_
   refine q3 ?_
   have h := si h
   subst h
   exact DoneS.ret Sees.refl rfl rfl
  refine q2 ?_
  refine q6 ?_
  obtain ⟨c3, h⟩ := ck h
  refine jo 18 (.bin .add false 8 (ki 1)) (r_addn (i := v2) (j := 1) rfl rfl c3) ?_
  refine jk 1 (.d (.k3 (.i 8 (vi ((v2 + 1 : Nat) : Int)) .n))) ?_
  exact Vs.intro sy ⟨(v2 + 1), rfl, h⟩
 refine q5 ?_
 exact Vs.intro sy ⟨(), rfl, h⟩
theorem slices_ContainsFunc_Range_ok (n : Nat) (a0 : List Range) (r : Bool) (h : slices_ContainsFunc_Range n a0 = some r) : FnL Tryz.prog 198 [eS 2 eRange a0, .fn (.func 199) [] []] [] (vb r) [] := by
 dsimp only [slices_ContainsFunc_Range] at h
 refine fo [4] Tryz.call198 Tryz.func198 rfl ?_
 refine sk .a ?_
 refine sj ?_
 refine rk 2 (.i 5 (eS 2 eRange a0) (.i 6 (.fn (.func 199) [] []) .n)) ?_
 obtain ⟨y1, hy1, h⟩ := bs h
 refine jc 7 [5, 6] (slices_IndexFunc_Range_ok n a0 y1 hy1) ?_
 refine jk 2 (.i 4 (vb (decide ((0 : Int) ≤ y1))) .n) ?_
 refine q3 ?_
 have h := si h
 subst h
 exact DoneS.ret Sees.refl rfl rfl
theorem restore_checkRanges_ok (n : Nat) (a0 : WantedPart) (r : Int) (h : restore_checkRanges n a0 = some r) : FnL Tryz.prog 168 [.agg [vt a0.Name, eS 2 eRange a0.Ranges]] [] (vi r) [] := by
 dsimp only [restore_checkRanges] at h
 refine fo [2] Tryz.call168 Tryz.func168 rfl ?_
 refine sko (.i 1 (.ptr 0 0 0) .n) [some (.row 2 [.agg [vt a0.Name, eS 2 eRange a0.Ranges]])] ?_
 refine q1 ?_
 refine sj ?_
 refine rk 2 (.k (.i 4 (eS 2 eRange a0.Ranges) .n)) ?_
 refine jo 5 (.len 0 4) (ok_len_m rfl) ?_
 obtain ⟨y1, hy1, h⟩ := bs h
 refine jc 6 [5, (ki 1), (ki 6)] (restore_within_ok n ((a0.Ranges.length : Nat) : Int) 1 6 y1 hy1) ?_
 refine jk 1 (.d2 (.k (.i 7 (vb (!((decide (1 ≤ ((a0.Ranges.length : Nat) : Int))) && (decide (((a0.Ranges.length : Nat) : Int) ≤ 6))))) .n))) ?_
 refine tc h (fun c1 h => ?_) (fun c1 h => ?_)
 ·refine sk (.i 2 (vi 10) .n) ?_
  refine q3 ?_
  have h := si h
  subst h
  exact DoneS.ret (S' := ⟨[(2, vi 10)], []⟩) (sc [] (by decide) (by kernel_rfl) ObRen.nil rfl rfl) rfl rfl
 refine q2 ?_
 refine q1 ?_
 refine sj ?_
 refine rk 2 (.i 9 (eS 2 eRange a0.Ranges) .n) ?_
 obtain ⟨y2, hy2, h⟩ := bs h
 refine jc 10 [9, (.c (.fn (.func 199) [] []))] (slices_ContainsFunc_Range_ok n a0.Ranges y2 hy2) ?_
 refine jf (.k .n) ?_
 refine tc h (fun c2 h => ?_) (fun c2 h => ?_)
 ·refine sk (.i 2 (vi 2) .n) ?_
  refine q3 ?_
  have h := si h
  subst h
  exact DoneS.ret (S' := ⟨[(2, vi 2)], []⟩) (sc [] (by decide) (by kernel_rfl) ObRen.nil rfl rfl) rfl rfl
 refine q2 ?_
 refine sk (.i 2 (vi 0) .n) ?_
 refine q3 ?_
 have h := si h
 subst h
 exact DoneS.ret (S' := ⟨[(2, vi 0)], []⟩) (sc [] (by decide) (by kernel_rfl) ObRen.nil rfl rfl) rfl rfl
set_option maxHeartbeats 1000000 in
theorem restore_named_WantedPart_ok (n : Nat) (a0 : List WantedPart) (a1 : Int) (r : Int) (h : restore_named_WantedPart n a0 a1 = some r) : FnL Tryz.prog 166 [eS 2 eWantedPart a0, vi a1, .fn (.func 167) [] [], .fn (.func 168) [] []] [] (vi r) [] := by
 dsimp only [restore_named_WantedPart] at h
 refine fo [8] Tryz.call166 Tryz.func166 rfl ?_
 refine sk .a ?_
 refine q1 ?_
 refine sj ?_
 refine rk 1 (.k4 (.i 14 (eS 2 eWantedPart a0) .n)) ?_
 refine jo 15 (.len 0 14) (ok_len_m rfl) ?_
 refine jk 2 (.d (.k (.d (.k2 (.i 17 (vb (decide (a1 < (a0.length : Int)))) .n))))) ?_
 refine tc h (fun c1 h => ?_) (fun c1 h => ?_)
 ·refine sk (.i 8 (vi 8) .n) ?_
  refine q3 ?_
  have h := si h
  subst h
  exact DoneS.ret Sees.refl rfl rfl
 refine q2 ?_
 refine sj ?_
 refine jx 18 .mkmap _ rfl rfl rfl ?_
 refine jk 1 (.d (.k3 (.i 9 (.map 0) .n))) ?_
 refine TriE.seqK h (fun (_ : Unit) => St.mk [] []) ?_ ?_
 ·rintro ⟨⟩ h
  refine sk (.i 8 (vi 0) .n) ?_
  refine q3 ?_
  have h := si h
  subst h
  exact DoneS.ret Sees.refl rfl rfl
 intro k1 h
 refine sj ?_
 refine rk 1 (.d (.k3 (.i 19 (eS 2 eWantedPart a0) .n))) ?_
 refine jo 20 (.len 0 19) (ok_len_m rfl) ?_
 refine jk 1 (.d (.k4 (.i 20 (vi (a0.length : Int)) (.i 21 (vi 0) .n)))) ?_
 refine q4 ?_
 refine ts (.k4 (.k (.i 21 (vi 0) .n))) ?_
 refine TriE.loopN h (fun (t : Nat × (List (Str × Bool))) => match t with | (v4, v5) => St.mk [(2, .fn (.func 167) [] []), (3, .fn (.func 168) [] []), (9, .map 0), (19, eS 2 eWantedPart a0), (20, vi (a0.length : Int)), (21, vi v4)] [some (.mp (mpE vt vb v5))]) rfl ?_
 clear h
 rintro back ⟨v4, v5⟩ h
 dsimp only [restore_named_WantedPart_L1] at h
 refine sj ?_
 refine jo 22 (.bin .lss false 21 20) (n_lss (i := v4) (j := a0.length) rfl rfl) ?_
 refine jf (.d (.k4 (.k2 (.i 22 (vb (decide (v4 < a0.length))) .n)))) ?_
 refine q1 ?_
 refine tc h (fun c2 h => ?_) (fun c2 h => ?_)
 ·refine q2 ?_
  refine q7 ?_
  refine sj ?_
  refine jo 23 (.iaddr 2 19 21) (ok_iaddr_m (j := v4) rfl rfl rfl c2) ?_
  refine jo 24 (.load true 2 23) (ok_load_fm (v := .agg [vt ((ix a0 v4).Name), eS 2 eRange ((ix a0 v4).Ranges)]) rfl c2 rfl) ?_
  refine jko 2 (.d2 (.k4 (.k2 (.i 11 (.ptr 1 0 0) .n)))) [some (.mp (mpE vt vb v5)), some (.row 2 [.agg [vt ((ix a0 v4).Name), eS 2 eRange ((ix a0 v4).Ranges)]])] ?_
  refine q1 ?_
  refine sj ?_
  refine rk 2 (.k4 (.k3 (.i 25 (.fn (.func 167) [] []) (.i 26 (.agg [vt ((ix a0 v4).Name), eS 2 eRange ((ix a0 v4).Ranges)]) .n)))) ?_
  obtain ⟨y6, hy6, h⟩ := bs h
  refine jy (vt ((ix a0 v4).Name)) 27 25 [26] rfl (restore_checkBoth_f1_ok n (ix a0 v4) y6 hy6) [] rfl ObsRen.nil ObsRen.nil rfl ?_
  refine jk 1 (.d (.k4 (.k3 (.i 12 (vt ((ix a0 v4).Name)) .n)))) ?_
  refine q4 ?_
  refine sj ?_
  refine rk 1 (.k4 (.k4 (.i 31 (vt ((ix a0 v4).Name)) .n))) ?_
  obtain ⟨y7, hy7, h⟩ := bs h
  refine jc 32 [31] (restore_isName_ok n ((ix a0 v4).Name) y7 hy7) ?_
  refine jk 2 (.d (.k4 (.k4 (.i 30 (vb (!y7)) .n)))) ?_
  refine tc h (fun c3 h => ?_) (fun c3 h => ?_)
  ·refine sk (.i 8 (vi 4) .n) ?_
   refine q3 ?_
   have h := si h
   subst h
   exact DoneS.ret (S' := ⟨[(8, vi 4)], []⟩) (sc [] (by decide) (by kernel_rfl) ObRen.nil rfl rfl) rfl rfl
  refine sj ?_
  refine rk 2 (.k4 (.k4 (.i 35 (.map 0) (.i 36 (vt ((ix a0 v4).Name)) .n)))) ?_
  refine jo 37 (.lookup true (.p (.bool false)) false 35 36) (ok_lookup_s (l := v5) (ev := vb) (z0 := false) rfl rfl rfl rfl) ?_
  refine jk 1 (.d (.k4 (.k4 (.i 34 (vb (Option.getD (List.lookup ((ix a0 v4).Name) v5) false)) .n)))) ?_
  refine tc h (fun c4 h => ?_) (fun c4 h => ?_)
  ·refine sk (.i 8 (vi 5) .n) ?_
   refine q3 ?_
   have h := si h
   subst h
   exact DoneS.ret (S' := ⟨[(8, vi 5)], []⟩) (sc [] (by decide) (by kernel_rfl) ObRen.nil rfl rfl) rfl rfl
  refine q6 ?_
  refine rk 2 (.k4 (.k3 (.i 28 (.map 0) (.i 29 (vt ((ix a0 v4).Name)) .n)))) ?_
  refine jn (.mapset true 28 29 (.c (.p (.bool true)))) _ (ok_mapset_s (l := v5) (ev := vb) (v := true) rfl rfl rfl rfl) rfl rfl ?_
  refine jf (.k4 (.k3 .n)) ?_
  refine sj ?_
  refine rk 2 (.k4 (.k2 (.i 38 (.fn (.func 168) [] []) (.i 39 (.agg [vt ((ix a0 v4).Name), eS 2 eRange ((ix a0 v4).Ranges)]) .n)))) ?_
  obtain ⟨y8, hy8, h⟩ := bs h
  refine jy (vi y8) 40 38 [39] rfl (restore_checkRanges_ok n (ix a0 v4) y8 hy8) [] rfl ObsRen.nil ObsRen.nil rfl ?_
  refine jk 1 (.d (.k4 (.k2 (.i 13 (vi y8) .n)))) ?_
  refine sk (.k4 (.k3 (.i 42 (vb (y8 != (0 : Int))) .n))) ?_
  refine tc h (fun c5 h => ?_) (fun c5 h => ?_)
  ·refine sk (.i 8 (vi y8) .n) ?_
   refine q3 ?_
   have h := si h
   subst h
   exact DoneS.ret (S' := ⟨[(8, vi y8)], []⟩) (sc [] (by decide) (by kernel_rfl) ObRen.nil rfl rfl) rfl rfl
  refine q2 ?_
  refine q6 ?_
  obtain ⟨c6, h⟩ := ck h
  refine jo 44 (.bin .add false 21 (ki 1)) (r_addn (i := v4) (j := 1) rfl rfl c6) ?_
  refine jk 1 (.d (.k4 (.k (.i 21 (vi ((v4 + 1 : Nat) : Int)) .n)))) ?_
  exact Vs.intro (sc [0] (by decide) (by kernel_rfl) (obRen_mp vt_frz vb_frz rfl .nil) rfl rfl) ⟨(v4 + 1, (mPut ((ix a0 v4).Name) true v5)), rfl, h⟩
 refine q5 ?_
 exact Vs.intro (sc [] (by decide) (by kernel_rfl) ObRen.nil rfl rfl) ⟨(), rfl, h⟩
theorem restore_checkBoth_f2_ok (n : Nat) (a0 : OfferedPart) (r : Unit) (h : restore_checkBoth_f2 n a0 = some r) : FnL Tryz.prog 170 [.agg [vt a0.Name, eS 1 vi a0.Sizes]] [] (vt a0.Name) [] := by
 dsimp only [restore_checkBoth_f2] at h
 refine fo [2] Tryz.call170 Tryz.func170 rfl ?_
 refine sko (.i 1 (.ptr 0 0 0) .n) [some (.row 2 [.agg [vt a0.Name, eS 1 vi a0.Sizes]])] ?_
 refine sk (.i 2 (vt a0.Name) .n) ?_
 refine q3 ?_
 have h := si h
 subst h
 exact DoneS.ret (S' := ⟨[(2, vt a0.Name)], []⟩) (sc [] (by decide) (by kernel_rfl) ObRen.nil rfl rfl) rfl rfl
theorem restore_checkSizes_f1_ok (n : Nat) (a0 : Int) (r : Unit) (h : restore_checkSizes_f1 n a0 = some r) : FnL Tryz.prog 200 [vi a0] [] (vb (!((decide (0 ≤ a0)) && (decide (a0 ≤ 1000000))))) [] := by
 dsimp only [restore_checkSizes_f1] at h
 refine fo [2] Tryz.call200 Tryz.func200 rfl ?_
 refine sk .a ?_
 refine sj ?_
 refine rk 1 (.i 3 (vi a0) .n) ?_
 obtain ⟨y1, hy1, h⟩ := bs h
 refine jc 4 [3, (ki 0), (ki 1000000)] (restore_within_ok n a0 0 1000000 y1 hy1) ?_
 refine jk 2 (.i 2 (vb (!((decide (0 ≤ a0)) && (decide (a0 ≤ 1000000))))) .n) ?_
 refine q3 ?_
 have h := si h
 subst h
 exact DoneS.ret Sees.refl rfl rfl
theorem slices_IndexFunc_int_ok (n : Nat) (a0 : List Int) (r : Int) (h : slices_IndexFunc_int n a0 = some r) : FnL Tryz.prog 173 [eS 1 vi a0, .fn (.func 200) [] []] [] (vi r) [] := by
 dsimp only [slices_IndexFunc_int] at h
 refine fo [4] Tryz.call173 Tryz.func173 rfl ?_
 refine sk .a ?_
 refine TriE.seqK h (fun (_ : Unit) => St.mk [] []) ?_ ?_
 ·rintro ⟨⟩ h
  refine sk (.i 4 (vi (-1)) .n) ?_
  refine q3 ?_
  have h := si h
  subst h
  exact DoneS.ret Sees.refl rfl rfl
 intro k1 h
 refine sj ?_
 refine rk 1 (.k2 (.i 6 (eS 1 vi a0) .n)) ?_
 refine jo 7 (.len 0 6) (ok_len_m rfl) ?_
 refine jk 1 (.d (.k2 (.i 7 (vi (a0.length : Int)) (.i 8 (vi 0) .n)))) ?_
 refine q4 ?_
 refine ts (.k3 (.i 8 (vi 0) .n)) ?_
 refine TriE.loopN h (fun (v2 : Nat) => St.mk [(0, eS 1 vi a0), (1, .fn (.func 200) [] []), (7, vi (a0.length : Int)), (8, vi v2)] []) rfl ?_
 clear h
 rintro back v2 h
 dsimp only [slices_IndexFunc_int_L1] at h
 refine sj ?_
 refine jo 9 (.bin .lss false 8 7) (n_lss (i := v2) (j := a0.length) rfl rfl) ?_
 refine jf (.d (.k4 (.i 9 (vb (decide (v2 < a0.length))) .n))) ?_
 refine q1 ?_
 refine tc h (fun c1 h => ?_) (fun c1 h => ?_)
 ·refine q2 ?_
  refine q7 ?_
  refine sk (.k4 (.i 5 (vi v2) .n)) ?_
  refine sj ?_
  refine rk 3 (.k4 (.k (.i 11 (.fn (.func 200) [] []) (.i 12 (eS 1 vi a0) (.i 13 (vi v2) .n))))) ?_
  refine jo 14 (.iaddr 1 12 13) (ok_iaddr_m (j := v2) rfl rfl rfl c1) ?_
  refine jo 15 (.load false 1 14) (ok_load_fm (v := vi (ix a0 v2)) rfl c1 rfl) ?_
  obtain ⟨y3, hy3, h⟩ := bs h
  refine jy (vb (!((decide (0 ≤ (ix a0 v2))) && (decide ((ix a0 v2) ≤ 1000000))))) 16 11 [15] rfl (restore_checkSizes_f1_ok n (ix a0 v2) y3 hy3) [] rfl ObsRen.nil ObsRen.nil rfl ?_
  refine jf (.d3 (.k4 (.k (.i 16 (vb (!((decide (0 ≤ (ix a0 v2))) && (decide ((ix a0 v2) ≤ 1000000))))) .n)))) ?_
  refine tc h (fun c2 h => ?_) (fun c2 h => ?_)
  ·refine sk (.i 4 (vi v2) .n) ?_
   refine q3 ?_
   have h := si h
   subst h
   exact DoneS.ret Sees.refl rfl rfl
  refine q2 ?_
  refine q6 ?_
  obtain ⟨c3, h⟩ := ck h
  refine jo 18 (.bin .add false 8 (ki 1)) (r_addn (i := v2) (j := 1) rfl rfl c3) ?_
  refine jk 1 (.d (.k3 (.i 8 (vi ((v2 + 1 : Nat) : Int)) .n))) ?_
  exact Vs.intro sy ⟨(v2 + 1), rfl, h⟩
 refine q5 ?_
 exact Vs.intro sy ⟨(), rfl, h⟩
theorem slices_ContainsFunc_int_ok (n : Nat) (a0 : List Int) (r : Bool) (h : slices_ContainsFunc_int n a0 = some r) : FnL Tryz.prog 118 [eS 1 vi a0, .fn (.func 200) [] []] [] (vb r) [] := by
 dsimp only [slices_ContainsFunc_int] at h
 refine fo [4] Tryz.call118 Tryz.func118 rfl ?_
 refine sk .a ?_
 refine sj ?_
 refine rk 2 (.i 5 (eS 1 vi a0) (.i 6 (.fn (.func 200) [] []) .n)) ?_
 obtain ⟨y1, hy1, h⟩ := bs h
 refine jc 7 [5, 6] (slices_IndexFunc_int_ok n a0 y1 hy1) ?_
 refine jk 2 (.i 4 (vb (decide ((0 : Int) ≤ y1))) .n) ?_
 refine q3 ?_
 have h := si h
 subst h
 exact DoneS.ret Sees.refl rfl rfl
theorem restore_checkSizes_ok (n : Nat) (a0 : OfferedPart) (r : Int) (h : restore_checkSizes n a0 = some r) : FnL Tryz.prog 171 [.agg [vt a0.Name, eS 1 vi a0.Sizes]] [] (vi r) [] := by
 dsimp only [restore_checkSizes] at h
 refine fo [2] Tryz.call171 Tryz.func171 rfl ?_
 refine sko (.i 1 (.ptr 0 0 0) .n) [some (.row 2 [.agg [vt a0.Name, eS 1 vi a0.Sizes]])] ?_
 refine q1 ?_
 refine sj ?_
 refine rk 2 (.k (.i 4 (eS 1 vi a0.Sizes) .n)) ?_
 refine jo 5 (.len 0 4) (ok_len_m rfl) ?_
 obtain ⟨y1, hy1, h⟩ := bs h
 refine jc 6 [5, (ki 1), (ki 6)] (restore_within_ok n ((a0.Sizes.length : Nat) : Int) 1 6 y1 hy1) ?_
 refine jk 1 (.d2 (.k (.i 7 (vb (!((decide (1 ≤ ((a0.Sizes.length : Nat) : Int))) && (decide (((a0.Sizes.length : Nat) : Int) ≤ 6))))) .n))) ?_
 refine tc h (fun c1 h => ?_) (fun c1 h => ?_)
 ·refine sk (.i 2 (vi 10) .n) ?_
  refine q3 ?_
  have h := si h
  subst h
  exact DoneS.ret (S' := ⟨[(2, vi 10)], []⟩) (sc [] (by decide) (by kernel_rfl) ObRen.nil rfl rfl) rfl rfl
 refine q2 ?_
 refine q1 ?_
 refine sj ?_
 refine rk 2 (.i 9 (eS 1 vi a0.Sizes) .n) ?_
 obtain ⟨y2, hy2, h⟩ := bs h
 refine jc 10 [9, (.c (.fn (.func 200) [] []))] (slices_ContainsFunc_int_ok n a0.Sizes y2 hy2) ?_
 refine jf (.k .n) ?_
 refine tc h (fun c2 h => ?_) (fun c2 h => ?_)
 ·refine sk (.i 2 (vi 2) .n) ?_
  refine q3 ?_
  have h := si h
  subst h
  exact DoneS.ret (S' := ⟨[(2, vi 2)], []⟩) (sc [] (by decide) (by kernel_rfl) ObRen.nil rfl rfl) rfl rfl
 refine q2 ?_
 refine sk (.i 2 (vi 0) .n) ?_
 refine q3 ?_
 have h := si h
 subst h
 exact DoneS.ret (S' := ⟨[(2, vi 0)], []⟩) (sc [] (by decide) (by kernel_rfl) ObRen.nil rfl rfl) rfl rfl
set_option maxHeartbeats 1000000 in
theorem restore_named_OfferedPart_ok (n : Nat) (a0 : List OfferedPart) (a1 : Int) (r : Int) (h : restore_named_OfferedPart n a0 a1 = some r) : FnL Tryz.prog 169 [eS 2 eOfferedPart a0, vi a1, .fn (.func 170) [] [], .fn (.func 171) [] []] [] (vi r) [] := by
 dsimp only [restore_named_OfferedPart] at h
 refine fo [8] Tryz.call169 Tryz.func169 rfl ?_
 refine sk .a ?_
 refine q1 ?_
 refine sj ?_
 refine rk 1 (.k4 (.i 14 (eS 2 eOfferedPart a0) .n)) ?_
 refine jo 15 (.len 0 14) (ok_len_m rfl) ?_
 refine jk 2 (.d (.k (.d (.k2 (.i 17 (vb (decide (a1 < (a0.length : Int)))) .n))))) ?_
 refine tc h (fun c1 h => ?_) (fun c1 h => ?_)
 ·refine sk (.i 8 (vi 8) .n) ?_
  refine q3 ?_
  have h := si h
  subst h
  exact DoneS.ret Sees.refl rfl rfl
 refine q2 ?_
 refine sj ?_
 refine jx 18 .mkmap _ rfl rfl rfl ?_
 refine jk 1 (.d (.k3 (.i 9 (.map 0) .n))) ?_
 refine TriE.seqK h (fun (_ : Unit) => St.mk [] []) ?_ ?_
 ·rintro ⟨⟩ h
  refine sk (.i 8 (vi 0) .n) ?_
  refine q3 ?_
  have h := si h
  subst h
  exact DoneS.ret Sees.refl rfl rfl
 intro k1 h
 refine sj ?_
 refine rk 1 (.d (.k3 (.i 19 (eS 2 eOfferedPart a0) .n))) ?_
 refine jo 20 (.len 0 19) (ok_len_m rfl) ?_
 refine jk 1 (.d (.k4 (.i 20 (vi (a0.length : Int)) (.i 21 (vi 0) .n)))) ?_
 refine q4 ?_
 refine ts (.k4 (.k (.i 21 (vi 0) .n))) ?_
 refine TriE.loopN h (fun (t : Nat × (List (Str × Bool))) => match t with | (v4, v5) => St.mk [(2, .fn (.func 170) [] []), (3, .fn (.func 171) [] []), (9, .map 0), (19, eS 2 eOfferedPart a0), (20, vi (a0.length : Int)), (21, vi v4)] [some (.mp (mpE vt vb v5))]) rfl ?_
 clear h
 rintro back ⟨v4, v5⟩ h
 dsimp only [restore_named_OfferedPart_L1] at h
 refine sj ?_
 refine jo 22 (.bin .lss false 21 20) (n_lss (i := v4) (j := a0.length) rfl rfl) ?_
 refine jf (.d (.k4 (.k2 (.i 22 (vb (decide (v4 < a0.length))) .n)))) ?_
 refine q1 ?_
 refine tc h (fun c2 h => ?_) (fun c2 h => ?_)
 ·refine q2 ?_
  refine q7 ?_
  refine sj ?_
  refine jo 23 (.iaddr 2 19 21) (ok_iaddr_m (j := v4) rfl rfl rfl c2) ?_
  refine jo 24 (.load true 2 23) (ok_load_fm (v := .agg [vt ((ix a0 v4).Name), eS 1 vi ((ix a0 v4).Sizes)]) rfl c2 rfl) ?_
  refine jko 2 (.d2 (.k4 (.k2 (.i 11 (.ptr 1 0 0) .n)))) [some (.mp (mpE vt vb v5)), some (.row 2 [.agg [vt ((ix a0 v4).Name), eS 1 vi ((ix a0 v4).Sizes)]])] ?_
  refine q1 ?_
  refine sj ?_
  refine rk 2 (.k4 (.k3 (.i 25 (.fn (.func 170) [] []) (.i 26 (.agg [vt ((ix a0 v4).Name), eS 1 vi ((ix a0 v4).Sizes)]) .n)))) ?_
  obtain ⟨y6, hy6, h⟩ := bs h
  refine jy (vt ((ix a0 v4).Name)) 27 25 [26] rfl (restore_checkBoth_f2_ok n (ix a0 v4) y6 hy6) [] rfl ObsRen.nil ObsRen.nil rfl ?_
  refine jk 1 (.d (.k4 (.k3 (.i 12 (vt ((ix a0 v4).Name)) .n)))) ?_
  refine q4 ?_
  refine sj ?_
  refine rk 1 (.k4 (.k4 (.i 31 (vt ((ix a0 v4).Name)) .n))) ?_
  obtain ⟨y7, hy7, h⟩ := bs h
  refine jc 32 [31] (restore_isName_ok n ((ix a0 v4).Name) y7 hy7) ?_
  refine jk 2 (.d (.k4 (.k4 (.i 30 (vb (!y7)) .n)))) ?_
  refine tc h (fun c3 h => ?_) (fun c3 h => ?_)
  ·refine sk (.i 8 (vi 4) .n) ?_
   refine q3 ?_
   have h := si h
   subst h
   exact DoneS.ret (S' := ⟨[(8, vi 4)], []⟩) (sc [] (by decide) (by kernel_rfl) ObRen.nil rfl rfl) rfl rfl
  refine sj ?_
  refine rk 2 (.k4 (.k4 (.i 35 (.map 0) (.i 36 (vt ((ix a0 v4).Name)) .n)))) ?_
  refine jo 37 (.lookup true (.p (.bool false)) false 35 36) (ok_lookup_s (l := v5) (ev := vb) (z0 := false) rfl rfl rfl rfl) ?_
  refine jk 1 (.d (.k4 (.k4 (.i 34 (vb (Option.getD (List.lookup ((ix a0 v4).Name) v5) false)) .n)))) ?_
  refine tc h (fun c4 h => ?_) (fun c4 h => ?_)
  ·refine sk (.i 8 (vi 5) .n) ?_
   refine q3 ?_
   have h := si h
   subst h
   exact DoneS.ret (S' := ⟨[(8, vi 5)], []⟩) (sc [] (by decide) (by kernel_rfl) ObRen.nil rfl rfl) rfl rfl
  refine q6 ?_
  refine rk 2 (.k4 (.k3 (.i 28 (.map 0) (.i 29 (vt ((ix a0 v4).Name)) .n)))) ?_
  refine jn (.mapset true 28 29 (.c (.p (.bool true)))) _ (ok_mapset_s (l := v5) (ev := vb) (v := true) rfl rfl rfl rfl) rfl rfl ?_
  refine jf (.k4 (.k3 .n)) ?_
  refine sj ?_
  refine rk 2 (.k4 (.k2 (.i 38 (.fn (.func 171) [] []) (.i 39 (.agg [vt ((ix a0 v4).Name), eS 1 vi ((ix a0 v4).Sizes)]) .n)))) ?_
  obtain ⟨y8, hy8, h⟩ := bs h
  refine jy (vi y8) 40 38 [39] rfl (restore_checkSizes_ok n (ix a0 v4) y8 hy8) [] rfl ObsRen.nil ObsRen.nil rfl ?_
  refine jk 1 (.d (.k4 (.k2 (.i 13 (vi y8) .n)))) ?_
  refine sk (.k4 (.k3 (.i 42 (vb (y8 != (0 : Int))) .n))) ?_
  refine tc h (fun c5 h => ?_) (fun c5 h => ?_)
  ·refine sk (.i 8 (vi y8) .n) ?_
   refine q3 ?_
   have h := si h
   subst h
   exact DoneS.ret (S' := ⟨[(8, vi y8)], []⟩) (sc [] (by decide) (by kernel_rfl) ObRen.nil rfl rfl) rfl rfl
  refine q2 ?_
  refine q6 ?_
  obtain ⟨c6, h⟩ := ck h
  refine jo 44 (.bin .add false 21 (ki 1)) (r_addn (i := v4) (j := 1) rfl rfl c6) ?_
  refine jk 1 (.d (.k4 (.k (.i 21 (vi ((v4 + 1 : Nat) : Int)) .n)))) ?_
  exact Vs.intro (sc [0] (by decide) (by kernel_rfl) (obRen_mp vt_frz vb_frz rfl .nil) rfl rfl) ⟨(v4 + 1, (mPut ((ix a0 v4).Name) true v5)), rfl, h⟩
 refine q5 ?_
 exact Vs.intro (sc [] (by decide) (by kernel_rfl) ObRen.nil rfl rfl) ⟨(), rfl, h⟩
theorem restore_checkBoth_ok (n : Nat) (a0 : List WantedPart) (a1 : List OfferedPart) (r : Int) (h : restore_checkBoth n a0 a1 = some r) : FnL Tryz.prog 115 [eS 2 eWantedPart a0, eS 2 eOfferedPart a1] [] (vi r) [] := by
 dsimp only [restore_checkBoth] at h
 refine fo [4] Tryz.call115 Tryz.func115 rfl ?_
 refine sk .a ?_
 refine q1 ?_
 refine sj ?_
 refine rk 1 (.d (.k (.i 6 (eS 2 eWantedPart a0) .n))) ?_
 obtain ⟨y1, hy1, h⟩ := bs h
 refine jc 7 [6, (ki 40), (.c (.fn (.func 167) [] [])), (.c (.fn (.func 168) [] []))] (restore_named_WantedPart_ok n a0 40 y1 hy1) ?_
 refine jk 1 (.d (.k (.i 5 (vi y1) .n))) ?_
 refine sk (.k2 (.i 9 (vb (y1 != (0 : Int))) .n)) ?_
 refine tc h (fun c1 h => ?_) (fun c1 h => ?_)
 ·refine sk (.i 4 (vi y1) .n) ?_
  refine q3 ?_
  have h := si h
  subst h
  exact DoneS.ret Sees.refl rfl rfl
 refine q2 ?_
 refine sj ?_
 refine rk 1 (.i 11 (eS 2 eOfferedPart a1) .n) ?_
 obtain ⟨y2, hy2, h⟩ := bs h
 refine jc 12 [11, (ki 40), (.c (.fn (.func 170) [] [])), (.c (.fn (.func 171) [] []))] (restore_named_OfferedPart_ok n a1 40 y2 hy2) ?_
 refine jk 1 (.i 4 (vi y2) .n) ?_
 refine q3 ?_
 have h := si h
 subst h
 exact DoneS.ret Sees.refl rfl rfl
theorem restore_fits_ok (n : Nat) (a0 : WantedPart) (a1 : OfferedPart) (r : Bool) (h : restore_fits n a0 a1 = some r) : FnL Tryz.prog 116 [.agg [vt a0.Name, eS 2 eRange a0.Ranges], .agg [vt a1.Name, eS 1 vi a1.Sizes]] [] (vb r) [] := by
 dsimp only [restore_fits] at h
 refine fo [4] Tryz.call116 Tryz.func116 rfl ?_
 refine sko (.i 2 (.ptr 0 0 0) (.i 3 (.ptr 1 0 0) .n)) [some (.row 2 [.agg [vt a0.Name, eS 2 eRange a0.Ranges]]), some (.row 2 [.agg [vt a1.Name, eS 1 vi a1.Sizes]])] ?_
 refine q1 ?_
 refine sj ?_
 refine rk 2 (.k2 (.i 8 (eS 2 eRange a0.Ranges) .n)) ?_
 refine jo 9 (.len 0 8) (ok_len_m rfl) ?_
 refine rk 2 (.d (.k2 (.i 9 (vi ((a0.Ranges.length : Nat) : Int)) (.i 11 (eS 1 vi a1.Sizes) .n)))) ?_
 refine jo 12 (.len 0 11) (ok_len_m rfl) ?_
 refine jo 13 (.bin .neq false 9 12) (n_neq (i := a0.Ranges.length) (j := a1.Sizes.length) rfl rfl) ?_
 refine jf (.d2 (.k2 (.i 13 (vb (!decide (a0.Ranges.length = a1.Sizes.length))) .n))) ?_
 refine tc h (fun c1 h => ?_) (fun c1 h => ?_)
 ·refine sk (.i 4 (vb false) .n) ?_
  refine q3 ?_
  have h := si h
  subst h
  exact DoneS.ret (S' := ⟨[(4, vb false)], []⟩) (sc [] (by decide) (by kernel_rfl) ObRen.nil rfl rfl) rfl rfl
 refine q2 ?_
 refine TriE.seqK h (fun (_ : Unit) => St.mk [] []) ?_ ?_
 ·rintro ⟨⟩ h
  refine sk (.i 4 (vb true) .n) ?_
  refine q3 ?_
  have h := si h
  subst h
  exact DoneS.ret Sees.refl rfl rfl
 intro k1 h
 refine sj ?_
 refine rk 2 (.d (.k (.i 15 (eS 2 eRange a0.Ranges) .n))) ?_
 refine jo 16 (.len 0 15) (ok_len_m rfl) ?_
 refine jk 1 (.d (.k2 (.i 16 (vi ((a0.Ranges.length : Nat) : Int)) (.i 17 (vi 0) .n)))) ?_
 refine q4 ?_
 refine TriE.sees (S' := ⟨[(3, .ptr 0 0 0), (15, eS 2 eRange a0.Ranges), (16, vi ((a0.Ranges.length : Nat) : Int)), (17, vi 0)], [some (.row 2 [.agg [vt a1.Name, eS 1 vi a1.Sizes]])]⟩) (sc [1] (by decide) (by kernel_rfl) (.cons rfl .nil) rfl rfl) ?_
 refine TriE.loopN h (fun (v2 : Nat) => St.mk [(3, .ptr 0 0 0), (15, eS 2 eRange a0.Ranges), (16, vi ((a0.Ranges.length : Nat) : Int)), (17, vi v2)] [some (.row 2 [.agg [vt a1.Name, eS 1 vi a1.Sizes]])]) rfl ?_
 clear h
 rintro back v2 h
 dsimp only [restore_fits_L1] at h
 refine sj ?_
 refine jo 18 (.bin .lss false 17 16) (n_lss (i := v2) (j := a0.Ranges.length) rfl rfl) ?_
 refine jf (.d (.k4 (.i 18 (vb (decide (v2 < a0.Ranges.length))) .n))) ?_
 refine q1 ?_
 refine tc h (fun c2 h => ?_) (fun c2 h => ?_)
 ·refine q2 ?_
  refine q7 ?_
  refine sj ?_
  refine rk 1 (.k4 (.i 19 (vi v2) .n)) ?_
  refine jo 20 (.iaddr 2 15 17) (ok_iaddr_m (j := v2) rfl rfl rfl c2) ?_
  refine jo 21 (.load true 2 20) (ok_load_fm (v := .agg [vi ((ix a0.Ranges v2).Lo), vi ((ix a0.Ranges v2).Hi)]) rfl c2 rfl) ?_
  refine jko 3 (.d2 (.k4 (.i 6 (.ptr 1 0 0) (.i 5 (vi v2) .n)))) [some (.row 2 [.agg [vt a1.Name, eS 1 vi a1.Sizes]]), some (.row 2 [.agg [vi ((ix a0.Ranges v2).Lo), vi ((ix a0.Ranges v2).Hi)]])] ?_
  refine q1 ?_
  refine ts .a ?_
  refine TriE.draw (by kernel_rfl) ?_
  refine dk 3 (.i 24 (vi v2) (.i 23 (eS 1 vi a1.Sizes) (.i 22 (.ptr 0 0 1) .a))) ?_
  obtain ⟨c3, h⟩ := ck h
  refine dp 25 (.iaddr 1 23 24) (ok_iaddr_m (j := v2) rfl rfl rfl c3) ?_
  refine dp 26 (.load false 1 25) (ok_load_fm (v := vi (ix a1.Sizes v2)) rfl c3 rfl) ?_
  refine dk 4 (.i 30 (vi ((ix a0.Ranges v2).Hi)) (.i 29 (.ptr 1 0 1) (.i 28 (vi ((ix a0.Ranges v2).Lo)) (.i 27 (.ptr 1 0 0) .a)))) ?_
  obtain ⟨y3, hy3, h⟩ := bs h
  refine dc (vb ((decide (((ix a0.Ranges v2).Lo) ≤ (ix a1.Sizes v2))) && (decide ((ix a1.Sizes v2) ≤ ((ix a0.Ranges v2).Hi))))) 0 31 [26, 28, 30] (restore_within_ok n (ix a1.Sizes v2) ((ix a0.Ranges v2).Lo) ((ix a0.Ranges v2).Hi) y3 hy3) [] rfl ObsRen.nil ObsRen.nil rfl (.inr ⟨rfl, rfl⟩) ?_
  refine dk 1 (.i 32 (vb (!((decide (((ix a0.Ranges v2).Lo) ≤ (ix a1.Sizes v2))) && (decide ((ix a1.Sizes v2) ≤ ((ix a0.Ranges v2).Hi)))))) .a) ?_
  refine dfi (ob' := [some (.row 2 [.agg [vt a1.Name, eS 1 vi a1.Sizes]])]) (.d4 (.d4 (.d3 (.k4 (.i 32 (vb (!((decide (((ix a0.Ranges v2).Lo) ≤ (ix a1.Sizes v2))) && (decide ((ix a1.Sizes v2) ≤ ((ix a0.Ranges v2).Hi)))))) .n))))) [0] (.cons rfl .nil) ?_
  refine tc h (fun c4 h => ?_) (fun c4 h => ?_)
  ·refine sk (.i 4 (vb false) .n) ?_
   refine q3 ?_
   have h := si h
   subst h
   exact DoneS.ret (S' := ⟨[(4, vb false)], []⟩) (sc [] (by decide) (by kernel_rfl) ObRen.nil rfl rfl) rfl rfl
  refine q2 ?_
  refine q6 ?_
  obtain ⟨c5, h⟩ := ck h
  refine jo 33 (.bin .add false 17 (ki 1)) (r_addn (i := v2) (j := 1) rfl rfl c5) ?_
  refine jk 1 (.d (.k3 (.i 17 (vi ((v2 + 1 : Nat) : Int)) .n))) ?_
  exact Vs.intro sy ⟨(v2 + 1), rfl, h⟩
 refine q5 ?_
 exact Vs.intro (sc [] (by decide) (by kernel_rfl) ObRen.nil rfl rfl) ⟨(), rfl, h⟩
theorem slices_Index_int_ok (n : Nat) (a0 : List Int) (a1 : Int) (r : Int) (h : slices_Index_int n a0 a1 = some r) : FnL Tryz.prog 172 [eS 1 vi a0, vi a1] [] (vi r) [] := by
 dsimp only [slices_Index_int] at h
 refine fo [4] Tryz.call172 Tryz.func172 rfl ?_
 refine sk .a ?_
 refine TriE.seqK h (fun (_ : Unit) => St.mk [] []) ?_ ?_
 ·rintro ⟨⟩ h
  refine sk (.i 4 (vi (-1)) .n) ?_
  refine q3 ?_
  have h := si h
  subst h
  exact DoneS.ret Sees.refl rfl rfl
 intro k1 h
 refine sj ?_
 refine rk 1 (.k2 (.i 6 (eS 1 vi a0) .n)) ?_
 refine jo 7 (.len 0 6) (ok_len_m rfl) ?_
 refine jk 1 (.d (.k2 (.i 7 (vi (a0.length : Int)) (.i 8 (vi 0) .n)))) ?_
 refine q4 ?_
 refine ts (.k3 (.i 8 (vi 0) .n)) ?_
 refine TriE.loopN h (fun (v1 : Nat) => St.mk [(0, eS 1 vi a0), (1, vi a1), (7, vi (a0.length : Int)), (8, vi v1)] []) rfl ?_
 clear h
 rintro back v1 h
 dsimp only [slices_Index_int_L1] at h
 refine sj ?_
 refine jo 9 (.bin .lss false 8 7) (n_lss (i := v1) (j := a0.length) rfl rfl) ?_
 refine jf (.d (.k4 (.i 9 (vb (decide (v1 < a0.length))) .n))) ?_
 refine q1 ?_
 refine tc h (fun c1 h => ?_) (fun c1 h => ?_)
 ·refine q2 ?_
  refine q7 ?_
  refine sk (.k4 (.i 5 (vi v1) .n)) ?_
  refine sj ?_
  refine rk 3 (.k4 (.k (.i 11 (vi a1) (.i 12 (eS 1 vi a0) (.i 13 (vi v1) .n))))) ?_
  refine jo 14 (.iaddr 1 12 13) (ok_iaddr_m (j := v1) rfl rfl rfl c1) ?_
  refine jo 15 (.load false 1 14) (ok_load_fm (v := vi (ix a0 v1)) rfl c1 rfl) ?_
  refine jk 1 (.d2 (.k4 (.k (.i 16 (vb (a1 == (ix a0 v1))) .n)))) ?_
  refine tc h (fun c2 h => ?_) (fun c2 h => ?_)
  ·refine sk (.i 4 (vi v1) .n) ?_
   refine q3 ?_
   have h := si h
   subst h
   exact DoneS.ret Sees.refl rfl rfl
  refine q2 ?_
  refine q6 ?_
  obtain ⟨c3, h⟩ := ck h
  refine jo 18 (.bin .add false 8 (ki 1)) (r_addn (i := v1) (j := 1) rfl rfl c3) ?_
  refine jk 1 (.d (.k3 (.i 8 (vi ((v1 + 1 : Nat) : Int)) .n))) ?_
  exact Vs.intro sy ⟨(v1 + 1), rfl, h⟩
 refine q5 ?_
 exact Vs.intro sy ⟨(), rfl, h⟩
theorem slices_Contains_int_ok (n : Nat) (a0 : List Int) (a1 : Int) (r : Bool) (h : slices_Contains_int n a0 a1 = some r) : FnL Tryz.prog 117 [eS 1 vi a0, vi a1] [] (vb r) [] := by
 dsimp only [slices_Contains_int] at h
 refine fo [4] Tryz.call117 Tryz.func117 rfl ?_
 refine sk .a ?_
 refine sj ?_
 refine rk 2 (.i 5 (eS 1 vi a0) (.i 6 (vi a1) .n)) ?_
 obtain ⟨y1, hy1, h⟩ := bs h
 refine jc 7 [5, 6] (slices_Index_int_ok n a0 a1 y1 hy1) ?_
 refine jk 2 (.i 4 (vb (decide ((0 : Int) ≤ y1))) .n) ?_
 refine q3 ?_
 have h := si h
 subst h
 exact DoneS.ret Sees.refl rfl rfl
set_option maxHeartbeats 1000000 in
theorem restore_CheckMatch_ok (n : Nat) (a0 : List WantedPart) (a1 : List OfferedPart) (a2 : List Int) (r : Int × Int) (h : restore_CheckMatch n a0 a1 a2 = some r) : FnL Tryz.prog 50 [eS 2 eWantedPart a0, eS 2 eOfferedPart a1, eS 1 vi a2] [] (.tup [vi r.2, vi r.1]) [] := by
 dsimp only [restore_CheckMatch] at h
 refine fo [6, 7] Tryz.call50 Tryz.func50 rfl ?_
 refine sk .a ?_
 refine q1 ?_
 refine sj ?_
 refine rk 2 (.k3 (.i 12 (eS 2 eWantedPart a0) (.i 13 (eS 2 eOfferedPart a1) .n))) ?_
 obtain ⟨y1, hy1, h⟩ := bs h
 refine jc 14 [12, 13] (restore_checkBoth_ok n a0 a1 y1 hy1) ?_
 refine jk 1 (.d (.k3 (.i 8 (vi y1) .n))) ?_
 refine sk (.k4 (.i 16 (vb (y1 != (0 : Int))) .n)) ?_
 refine tc h (fun c1 h => ?_) (fun c1 h => ?_)
 ·refine sk (.i 6 (vi 0) (.i 7 (vi y1) .n)) ?_
  refine q3 ?_
  have h := si h
  subst h
  exact DoneS.ret Sees.refl rfl rfl
 refine q2 ?_
 refine q1 ?_
 refine sj ?_
 refine rk 1 (.k3 (.i 18 (eS 1 vi a2) .n)) ?_
 refine jo 19 (.len 0 18) (ok_len_m rfl) ?_
 refine rk 1 (.d (.k3 (.i 19 (vi (a2.length : Int)) (.i 20 (eS 2 eWantedPart a0) .n)))) ?_
 refine jo 21 (.len 0 20) (ok_len_m rfl) ?_
 refine jo 22 (.bin .neq false 19 21) (n_neq (i := a2.length) (j := a0.length) rfl rfl) ?_
 refine jf (.d2 (.k3 (.i 22 (vb (!decide (a2.length = a0.length))) .n))) ?_
 refine tc h (fun c2 h => ?_) (fun c2 h => ?_)
 ·refine sk (.i 6 (vi 0) (.i 7 (vi 10) .n)) ?_
  refine q3 ?_
  have h := si h
  subst h
  exact DoneS.ret Sees.refl rfl rfl
 refine q2 ?_
 refine sk (.k3 (.i 9 (vi 0) .n)) ?_
 refine TriE.seqK h (fun (v12 : Nat) => St.mk [(9, vi v12)] []) ?_ ?_
 ·rintro v12 h
  refine sk (.i 6 (vi v12) (.i 7 (vi 0) .n)) ?_
  refine q3 ?_
  have h := si h
  subst h
  exact DoneS.ret Sees.refl rfl rfl
 intro k2 h
 refine sj ?_
 refine rk 1 (.k4 (.i 23 (eS 1 vi a2) .n)) ?_
 refine jo 24 (.len 0 23) (ok_len_m rfl) ?_
 refine jk 1 (.d (.k4 (.k (.i 24 (vi (a2.length : Int)) (.i 25 (vi 0) .n))))) ?_
 refine q4 ?_
 refine ts (.k3 (.i 9 (vi 0) (.d (.k2 (.i 25 (vi 0) .n))))) ?_
 refine TriE.loopN h (fun (t : Nat × Nat) => match t with | (v6, v7) => St.mk [(0, eS 2 eWantedPart a0), (1, eS 2 eOfferedPart a1), (2, eS 1 vi a2), (9, vi v6), (23, eS 1 vi a2), (24, vi (a2.length : Int)), (25, vi v7)] []) rfl ?_
 clear h
 rintro back ⟨v6, v7⟩ h
 dsimp only [restore_CheckMatch_L1] at h
 refine sj ?_
 refine jo 26 (.bin .lss false 25 24) (n_lss (i := v7) (j := a2.length) rfl rfl) ?_
 refine jf (.d (.k4 (.k3 (.i 26 (vb (decide (v7 < a2.length))) .n)))) ?_
 refine q1 ?_
 refine tc h (fun c3 h => ?_) (fun c3 h => ?_)
 ·refine q2 ?_
  refine TriE.seqK h (fun (v11 : Nat) => St.mk [(0, eS 2 eWantedPart a0), (1, eS 2 eOfferedPart a1), (2, eS 1 vi a2), (9, vi v11), (23, eS 1 vi a2), (24, vi (a2.length : Int)), (25, vi v7)] []) ?_ ?_
  ·rintro v11 h
   refine q6 ?_
   obtain ⟨c14, h⟩ := ck h
   refine jo 59 (.bin .add false 25 (ki 1)) (r_addn (i := v7) (j := 1) rfl rfl c14) ?_
   refine jk 1 (.d (.k4 (.k2 (.i 25 (vi ((v7 + 1 : Nat) : Int)) .n)))) ?_
   exact Vs.intro sy ⟨(v11, v7 + 1), rfl, h⟩
  intro k1 h
  refine q4 ?_
  refine sj ?_
  refine rk 1 (.k4 (.k3 (.i 27 (vi v7) .n))) ?_
  refine jo 28 (.iaddr 1 23 25) (ok_iaddr_m (j := v7) rfl rfl rfl c3) ?_
  refine jo 29 (.load false 1 28) (ok_load_fm (v := vi (ix a2 v7)) rfl c3 rfl) ?_
  refine jk 2 (.d2 (.k4 (.k3 (.i 10 (vi v7) (.i 11 (vi (ix a2 v7)) .n))))) ?_
  refine q7 ?_
  refine sk (.k4 (.k4 (.k (.i 30 (vb ((ix a2 v7) == ((-1) : Int))) .n)))) ?_
  refine tc h (fun c4 h => ?_) (fun c4 h => ?_)
  ·refine q5 ?_
   exact Vs.intro sy ⟨v6, rfl, h⟩
  refine sj ?_
  refine rk 2 (.k4 (.k4 (.k (.i 34 (vi (ix a2 v7)) (.i 35 (eS 2 eOfferedPart a1) .n))))) ?_
  refine jo 36 (.len 0 35) (ok_len_m rfl) ?_
  obtain ⟨c5, h⟩ := ck h
  refine jo 37 (.bin .sub false 36 (ki 1)) (r_sub rfl rfl c5) ?_
  obtain ⟨y8, hy8, h⟩ := bs h
  refine jc 38 [34, (ki 0), 37] (restore_within_ok n (ix a2 v7) 0 ((a1.length : Int) - 1) y8 hy8) ?_
  refine jk 2 (.d3 (.k4 (.k4 (.k (.i 33 (vb (!((decide (0 ≤ (ix a2 v7))) && (decide ((ix a2 v7) ≤ ((a1.length : Int) - 1)))))) .n))))) ?_
  refine tc h (fun c6 h => ?_) (fun c6 h => ?_)
  ·refine sk (.i 6 (vi 0) (.i 7 (vi 6) .n)) ?_
   refine q3 ?_
   have h := si h
   subst h
   exact DoneS.ret Sees.refl rfl rfl
  refine q1 ?_
  refine ts (.k4 (.k4 (.k .n))) ?_
  refine TriE.draw (by kernel_rfl) ?_
  refine dk 2 (.i 42 (vi v7) (.i 41 (eS 2 eWantedPart a0) .a)) ?_
  obtain ⟨c7, h⟩ := ck h
  refine dp 43 (.iaddr 2 41 42) (ok_iaddr_m (j := v7) rfl rfl rfl c7) ?_
  refine dp 44 (.load true 2 43) (ok_load_fm (v := .agg [vt ((ix a0 v7).Name), eS 2 eRange ((ix a0 v7).Ranges)]) rfl c7 rfl) ?_
  refine dk 2 (.i 46 (vi (ix a2 v7)) (.i 45 (eS 2 eOfferedPart a1) .a)) ?_
  obtain ⟨c8, h⟩ := ck h
  refine dp 47 (.iaddr 2 45 46) (ok_iaddr_m (j := (ix a2 v7).toNat) rfl rfl (inB_to c8) (inB_lt c8)) ?_
  obtain ⟨c9, h⟩ := ck h
  refine dp 48 (.load true 2 47) (ok_load_fm (v := .agg [vt ((ix a1 ((ix a2 v7).toNat)).Name), eS 1 vi ((ix a1 ((ix a2 v7).toNat)).Sizes)]) rfl c9 rfl) ?_
  obtain ⟨y9, hy9, h⟩ := bs h
  refine dc (vb y9) 0 49 [44, 48] (restore_fits_ok n (ix a0 v7) (ix a1 ((ix a2 v7).toNat)) y9 hy9) [] rfl ObsRen.nil ObsRen.nil rfl (.inr ⟨rfl, rfl⟩) ?_
  refine dk 2 (.i 40 (vb (!y9)) (.i 50 (vb (!y9)) .a)) ?_
  refine dfi (.d4 (.d4 (.d3 (.k4 (.k4 (.k (.i 40 (vb (!y9)) .n))))))) [] ObRen.nil ?_
  refine tc h (fun c10 h => ?_) (fun c10 h => ?_)
  ·refine sk (.i 6 (vi 0) (.i 7 (vi 15) .n)) ?_
   refine q3 ?_
   have h := si h
   subst h
   exact DoneS.ret Sees.refl rfl rfl
  refine sj ?_
  refine rk 2 (.k4 (.k3 (.d (.k (.i 52 (eS 1 vi a2) (.i 53 (vi v7) .n)))))) ?_
  obtain ⟨c11, h⟩ := ck h
  refine jo 54 (.slc 1 52 none (some 53) none) (ok_slc_hi (j := v7) rfl rfl rfl c11) ?_
  refine rk 1 (.d (.k4 (.k3 (.i 54 (eS 1 vi (List.take v7 a2)) (.i 55 (vi (ix a2 v7)) .n))))) ?_
  obtain ⟨y10, hy10, h⟩ := bs h
  refine jc 56 [54, 55] (slices_Contains_int_ok n (List.take v7 a2) (ix a2 v7) y10 hy10) ?_
  refine jk 1 (.d (.k4 (.k3 (.i 51 (vb y10) .n)))) ?_
  refine tc h (fun c12 h => ?_) (fun c12 h => ?_)
  ·refine sk (.i 6 (vi 0) (.i 7 (vi 17) .n)) ?_
   refine q3 ?_
   have h := si h
   subst h
   exact DoneS.ret Sees.refl rfl rfl
  refine q2 ?_
  refine q6 ?_
  refine rk 1 (.k3 (.d (.k3 (.i 57 (vi v6) .n)))) ?_
  obtain ⟨c13, h⟩ := ck h
  refine jo 58 (.bin .add false 57 (ki 1)) (r_addn (i := v6) (j := 1) rfl rfl c13) ?_
  refine jk 1 (.d (.k4 (.k2 (.i 9 (vi ((v6 + 1 : Nat) : Int)) .n)))) ?_
  exact Vs.intro sy ⟨(v6 + 1), rfl, h⟩
 refine q5 ?_
 exact Vs.intro sy ⟨v6, rfl, h⟩
theorem restore_CheckCover_f1_ok (n : Nat) (a0 : Int) (a1 : Int) (r : Unit) (h : restore_CheckCover_f1 n a0 a1 = some r) : FnL Tryz.prog 119 [vi a0, .ptr 0 0 0] [some (.row 1 [vi a1])] (vb (!((decide (0 ≤ a0)) && (decide (a0 ≤ (a1 - 1)))))) [some (.row 1 [vi a1])] := by
 dsimp only [restore_CheckCover_f1] at h
 refine fob [3] Tryz.call119 Tryz.func119 rfl (.cons rfl .nil) ?_
 refine sk .a ?_
 refine sj ?_
 refine rk 2 (.i 4 (vi a0) (.i 5 (vi a1) .n)) ?_
 obtain ⟨c1, h⟩ := ck h
 refine jo 6 (.bin .sub false 5 (ki 1)) (r_sub rfl rfl c1) ?_
 obtain ⟨y1, hy1, h⟩ := bs h
 refine jc 7 [4, (ki 0), 6] (restore_within_ok n a0 0 (a1 - 1) y1 hy1) ?_
 refine jk 2 (.i 3 (vb (!((decide (0 ≤ a0)) && (decide (a0 ≤ (a1 - 1)))))) .n) ?_
 refine q3 ?_
 have h := si h
 subst h
 exact DoneS.ret Sees.refl rfl rfl
theorem slices_IndexFunc_int_2_ok (n : Nat) (a0 : List Int) (a1 : Int) (r : Int) (h : slices_IndexFunc_int_2 n a0 a1 = some r) : FnL Tryz.prog 173 [eS 1 vi a0, .fn (.func 119) [] [.ptr 0 0 0]] [some (.row 1 [vi a1])] (vi r) [some (.row 1 [vi a1])] := by
 dsimp only [slices_IndexFunc_int_2] at h
 refine fob [4] Tryz.call173 Tryz.func173 rfl (.cons rfl .nil) ?_
 refine sk .a ?_
 refine TriE.seqK h (fun (_ : Unit) => St.mk [] [some (.row 1 [vi a1])]) ?_ ?_
 ·rintro ⟨⟩ h
  refine sk (.i 4 (vi (-1)) .n) ?_
  refine q3 ?_
  have h := si h
  subst h
  exact DoneS.ret Sees.refl rfl rfl
 intro k1 h
 refine sj ?_
 refine rk 1 (.k2 (.i 6 (eS 1 vi a0) .n)) ?_
 refine jo 7 (.len 0 6) (ok_len_m rfl) ?_
 refine jk 1 (.d (.k2 (.i 7 (vi (a0.length : Int)) (.i 8 (vi 0) .n)))) ?_
 refine q4 ?_
 refine ts (.k3 (.i 8 (vi 0) .n)) ?_
 refine TriE.loopN h (fun (v2 : Nat) => St.mk [(0, eS 1 vi a0), (1, .fn (.func 119) [] [.ptr 0 0 0]), (7, vi (a0.length : Int)), (8, vi v2)] [some (.row 1 [vi a1])]) rfl ?_
 clear h
 rintro back v2 h
 dsimp only [slices_IndexFunc_int_2_L1] at h
 refine sj ?_
 refine jo 9 (.bin .lss false 8 7) (n_lss (i := v2) (j := a0.length) rfl rfl) ?_
 refine jf (.d (.k4 (.i 9 (vb (decide (v2 < a0.length))) .n))) ?_
 refine q1 ?_
 refine tc h (fun c1 h => ?_) (fun c1 h => ?_)
 ·refine q2 ?_
  refine q7 ?_
  refine sk (.k4 (.i 5 (vi v2) .n)) ?_
  refine sj ?_
  refine rk 3 (.k4 (.k (.i 11 (.fn (.func 119) [] [.ptr 0 0 0]) (.i 12 (eS 1 vi a0) (.i 13 (vi v2) .n))))) ?_
  refine jo 14 (.iaddr 1 12 13) (ok_iaddr_m (j := v2) rfl rfl rfl c1) ?_
  refine jo 15 (.load false 1 14) (ok_load_fm (v := vi (ix a0 v2)) rfl c1 rfl) ?_
  obtain ⟨y3, hy3, h⟩ := bs h
  refine jy (vb (!((decide (0 ≤ (ix a0 v2))) && (decide ((ix a0 v2) ≤ (a1 - 1)))))) 16 11 [15] rfl (restore_CheckCover_f1_ok n (ix a0 v2) a1 y3 hy3) [0] rfl (.cons rfl .nil) (.cons rfl .nil) rfl ?_
  refine jf (.d3 (.k4 (.k (.i 16 (vb (!((decide (0 ≤ (ix a0 v2))) && (decide ((ix a0 v2) ≤ (a1 - 1)))))) .n)))) ?_
  refine tc h (fun c2 h => ?_) (fun c2 h => ?_)
  ·refine sk (.i 4 (vi v2) .n) ?_
   refine q3 ?_
   have h := si h
   subst h
   exact DoneS.ret Sees.refl rfl rfl
  refine q2 ?_
  refine q6 ?_
  obtain ⟨c3, h⟩ := ck h
  refine jo 18 (.bin .add false 8 (ki 1)) (r_addn (i := v2) (j := 1) rfl rfl c3) ?_
  refine jk 1 (.d (.k3 (.i 8 (vi ((v2 + 1 : Nat) : Int)) .n))) ?_
  exact Vs.intro sy ⟨(v2 + 1), rfl, h⟩
 refine q5 ?_
 exact Vs.intro sy ⟨(), rfl, h⟩
theorem slices_ContainsFunc_int_2_ok (n : Nat) (a0 : List Int) (a1 : Int) (r : Bool) (h : slices_ContainsFunc_int_2 n a0 a1 = some r) : FnL Tryz.prog 118 [eS 1 vi a0, .fn (.func 119) [] [.ptr 0 0 0]] [some (.row 1 [vi a1])] (vb r) [some (.row 1 [vi a1])] := by
 dsimp only [slices_ContainsFunc_int_2] at h
 refine fob [4] Tryz.call118 Tryz.func118 rfl (.cons rfl .nil) ?_
 refine sk .a ?_
 refine sj ?_
 refine rk 2 (.i 5 (eS 1 vi a0) (.i 6 (.fn (.func 119) [] [.ptr 0 0 0]) .n)) ?_
 obtain ⟨y1, hy1, h⟩ := bs h
 refine jco (vi y1) 7 [5, 6] (slices_IndexFunc_int_2_ok n a0 a1 y1 hy1) [0] rfl (.cons rfl .nil) (.cons rfl .nil) rfl ?_
 refine jk 2 (.i 4 (vb (decide ((0 : Int) ≤ y1))) .n) ?_
 refine q3 ?_
 have h := si h
 subst h
 exact DoneS.ret Sees.refl rfl rfl
set_option maxHeartbeats 1000000 in
theorem restore_CheckCover_ok (n : Nat) (a0 : List WantedPart) (a1 : List OfferedPart) (a2 : Arr2_ListInt) (r : Int × Int) (h : restore_CheckCover n a0 a1 a2 = some r) : FnL Tryz.prog 54 [eS 2 eWantedPart a0, eS 2 eOfferedPart a1, .agg [eS 1 vi a2.a0, eS 1 vi a2.a1]] [] (.tup [vi r.2, vi r.1]) [] := by
 dsimp only [restore_CheckCover] at h
 refine fo [6, 7] Tryz.call54 Tryz.func54 rfl ?_
 refine sko (.k2 (.i 5 (.ptr 0 0 0) .n)) [some (.row 2 [.agg [eS 1 vi a2.a0, eS 1 vi a2.a1]])] ?_
 refine q1 ?_
 refine sj ?_
 refine rk 2 (.k3 (.i 18 (eS 2 eWantedPart a0) (.i 19 (eS 2 eOfferedPart a1) .n))) ?_
 obtain ⟨y1, hy1, h⟩ := bs h
 refine jc 20 [18, 19] (restore_checkBoth_ok n a0 a1 y1 hy1) ?_
 refine jk 1 (.d (.k3 (.i 8 (vi y1) .n))) ?_
 refine sk (.k4 (.i 22 (vb (y1 != (0 : Int))) .n)) ?_
 refine tc h (fun c1 h => ?_) (fun c1 h => ?_)
 ·refine sk (.i 6 (vi 0) (.i 7 (vi y1) .n)) ?_
  refine q3 ?_
  have h := si h
  subst h
  exact DoneS.ret (S' := ⟨[(6, vi 0), (7, vi y1)], []⟩) (sc [] (by decide) (by kernel_rfl) ObRen.nil rfl rfl) rfl rfl
 refine q2 ?_
 refine q1 ?_
 refine sj ?_
 refine rk 1 (.k3 (.i 24 (eS 2 eWantedPart a0) .n)) ?_
 refine jo 25 (.len 0 24) (ok_len_m rfl) ?_
 refine rk 1 (.d (.k3 (.i 25 (vi (a0.length : Int)) (.i 26 (eS 2 eOfferedPart a1) .n)))) ?_
 refine jo 27 (.len 0 26) (ok_len_m rfl) ?_
 refine jk 2 (.d (.k3 (.i 28 (.agg [vi (a0.length : Int), vi (a1.length : Int)]) (.i 29 (vi 0) .n)))) ?_
 refine q4 ?_
 refine TriE.rnd 3 ?_
 refine RndE.seq ?_
 refine sk (.k4 (.k (.i 30 (vb true) .n))) ?_
 refine q1 ?_
 refine TriE.cond (b := true) rfl (fun c2 => ?_) (fun c2 => ?_)
 rotate_left
 ·cases c2
 refine q2 ?_
 refine q7 ?_
 refine sko (.k4 (.k (.i 10 (.ptr 1 0 0) (.i 9 (vi 0) .n)))) [some (.row 2 [.agg [eS 1 vi a2.a0, eS 1 vi a2.a1]]), some (.row 1 [vi (a0.length : Int)])] ?_
 refine sj ?_
 refine rk 4 (.k4 (.k (.i 35 (eS 1 vi a2.a0) (.i 36 (.fn (.func 119) [] [.ptr 1 0 0]) .n)))) ?_
 obtain ⟨y2, hy2, h⟩ := bs h
 refine jco (vb y2) 37 [35, 36] (slices_ContainsFunc_int_2_ok n a2.a0 (a0.length : Int) y2 hy2) [1] rfl (.cons rfl .nil) (.cons rfl .nil) rfl ?_
 refine jf (.d (.k4 (.k (.i 37 (vb y2) .n)))) ?_
 refine tc h (fun c3 h => ?_) (fun c3 h => ?_)
 ·refine sk (.i 6 (vi 0) (.i 7 (vi 6) .n)) ?_
  refine q3 ?_
  have h := si h
  subst h
  exact DoneS.ret (S' := ⟨[(6, vi 0), (7, vi 6)], []⟩) (sc [] (by decide) (by kernel_rfl) ObRen.nil rfl rfl) rfl rfl
 refine q2 ?_
 refine q6 ?_
 refine jo 38 (.bin .add false 29 (ki 1)) (r_addn (i := 0) (j := 1) rfl rfl rfl) ?_
 refine jk 1 (.d (.k4 (.i 29 (vi 1) .n))) ?_
 refine RndE.seq ?_
 refine sk (.k4 (.k (.i 30 (vb true) .n))) ?_
 refine q1 ?_
 refine TriE.cond (b := true) rfl (fun c4 => ?_) (fun c4 => ?_)
 rotate_left
 ·cases c4
 refine q2 ?_
 refine q7 ?_
 refine sko (.k4 (.k (.i 10 (.ptr 2 0 0) (.i 9 (vi 1) .n)))) [some (.row 2 [.agg [eS 1 vi a2.a0, eS 1 vi a2.a1]]), some (.row 1 [vi (a0.length : Int)]), some (.row 1 [vi (a1.length : Int)])] ?_
 refine sj ?_
 refine rk 4 (.k4 (.k (.i 35 (eS 1 vi a2.a1) (.i 36 (.fn (.func 119) [] [.ptr 2 0 0]) .n)))) ?_
 obtain ⟨y3, hy3, h⟩ := bs h
 refine jco (vb y3) 37 [35, 36] (slices_ContainsFunc_int_2_ok n a2.a1 (a1.length : Int) y3 hy3) [2] rfl (.cons rfl .nil) (.cons rfl .nil) rfl ?_
 refine jf (.d (.k4 (.k (.i 37 (vb y3) .n)))) ?_
 refine tc h (fun c5 h => ?_) (fun c5 h => ?_)
 ·refine sk (.i 6 (vi 0) (.i 7 (vi 6) .n)) ?_
  refine q3 ?_
  have h := si h
  subst h
  exact DoneS.ret (S' := ⟨[(6, vi 0), (7, vi 6)], []⟩) (sc [] (by decide) (by kernel_rfl) ObRen.nil rfl rfl) rfl rfl
 refine q2 ?_
 refine q6 ?_
 refine jo 38 (.bin .add false 29 (ki 1)) (r_addn (i := 1) (j := 1) rfl rfl rfl) ?_
 refine jk 1 (.d (.k4 (.i 29 (vi 2) .n))) ?_
 refine RndE.seq ?_
 refine sk (.k4 (.k (.i 30 (vb false) .n))) ?_
 refine q1 ?_
 refine TriE.cond (b := false) rfl (fun c6 => ?_) (fun c6 => ?_)
 ·cases c6
 refine q5 ?_
 refine q1 ?_
 refine sk (.k3 (.i 39 (.agg [eS 1 vi a2.a0, eS 1 vi a2.a1]) (.i 40 (vi 0) .n))) ?_
 refine q4 ?_
 refine TriE.rnd 3 ?_
 refine RndE.seq ?_
 refine sk (.k4 (.k (.i 41 (vb true) .n))) ?_
 refine q1 ?_
 refine TriE.cond (b := true) rfl (fun c7 => ?_) (fun c7 => ?_)
 rotate_left
 ·cases c7
 refine q2 ?_
 refine TriE.seqK h (fun (_ : Unit) => St.mk [(0, eS 2 eWantedPart a0), (1, eS 2 eOfferedPart a1), (5, .ptr 0 0 0), (39, .agg [eS 1 vi a2.a0, eS 1 vi a2.a1]), (40, vi 0)] [some (.row 2 [.agg [eS 1 vi a2.a0, eS 1 vi a2.a1]])]) ?_ ?_
 ·rintro ⟨⟩ h
  refine q6 ?_
  refine jo 59 (.bin .add false 40 (ki 1)) (r_addn (i := 0) (j := 1) rfl rfl rfl) ?_
  refine jk 1 (.d (.k4 (.i 40 (vi 1) .n))) ?_
  refine RndE.seq ?_
  refine sk (.k4 (.k (.i 41 (vb true) .n))) ?_
  refine q1 ?_
  refine TriE.cond (b := true) rfl (fun c16 => ?_) (fun c16 => ?_)
  rotate_left
  ·cases c16
  refine q2 ?_
  refine TriE.seqK h (fun (_ : Unit) => St.mk [(0, eS 2 eWantedPart a0), (1, eS 2 eOfferedPart a1), (5, .ptr 0 0 0), (39, .agg [eS 1 vi a2.a0, eS 1 vi a2.a1]), (40, vi 1)] [some (.row 2 [.agg [eS 1 vi a2.a0, eS 1 vi a2.a1]])]) ?_ ?_
  ·rintro ⟨⟩ h
   refine q6 ?_
   refine jo 59 (.bin .add false 40 (ki 1)) (r_addn (i := 1) (j := 1) rfl rfl rfl) ?_
   refine jk 1 (.d (.k4 (.i 40 (vi 2) .n))) ?_
   refine RndE.seq ?_
   refine sk (.k4 (.k (.i 41 (vb false) .n))) ?_
   refine q1 ?_
   refine TriE.cond (b := false) rfl (fun c25 => ?_) (fun c25 => ?_)
   ·cases c25
   refine q5 ?_
   refine TriE.seqK h (fun (_ : Unit) => St.mk [(5, .ptr 0 0 0)] [some (.row 2 [.agg [eS 1 vi a2.a0, eS 1 vi a2.a1]])]) ?_ ?_
   ·rintro ⟨⟩ h
    refine sj ?_
    refine rk 2 (.k (.i 94 (eS 1 vi a2.a0) .n)) ?_
    refine jo 95 (.len 0 94) (ok_len_m rfl) ?_
    refine rk 2 (.k (.i 97 (eS 1 vi a2.a1) .n)) ?_
    refine jo 98 (.len 0 97) (ok_len_m rfl) ?_
    obtain ⟨c35, h⟩ := ck h
    refine jo 99 (.bin .add false 95 98) (r_addn (i := a2.a0.length) (j := a2.a1.length) rfl rfl c35) ?_
    refine jk 2 (.i 6 (vi ((a2.a0.length + a2.a1.length : Nat) : Int)) (.i 7 (vi 0) .n)) ?_
    refine q3 ?_
    have h := si h
    subst h
    exact DoneS.ret (S' := ⟨[(6, vi ((a2.a0.length + a2.a1.length : Nat) : Int)), (7, vi 0)], []⟩) (sc [] (by decide) (by kernel_rfl) ObRen.nil rfl rfl) rfl rfl
   intro k4 h
   refine sj ?_
   refine rk 1 (.d (.k2 (.i 60 (eS 2 eWantedPart a0) .n))) ?_
   refine jo 61 (.len 0 60) (ok_len_m rfl) ?_
   refine jk 1 (.d (.k3 (.i 61 (vi (a0.length : Int)) (.i 62 (vi 0) .n)))) ?_
   refine q4 ?_
   refine TriE.loopN h (fun (v13 : Int) => St.mk [(1, eS 2 eOfferedPart a1), (5, .ptr 0 0 0), (60, eS 2 eWantedPart a0), (61, vi (a0.length : Int)), (62, vi v13)] [some (.row 2 [.agg [eS 1 vi a2.a0, eS 1 vi a2.a1]])]) rfl ?_
   clear h
   rintro back v13 h
   dsimp only [restore_CheckCover_L4] at h
   refine sk (.k4 (.k (.i 63 (vb (decide (v13 < (a0.length : Int)))) .n))) ?_
   refine q1 ?_
   refine tc h (fun c26 h => ?_) (fun c26 h => ?_)
   ·refine q2 ?_
    refine TriE.seqK h (fun (_ : Unit) => St.mk [(1, eS 2 eOfferedPart a1), (5, .ptr 0 0 0), (60, eS 2 eWantedPart a0), (61, vi (a0.length : Int)), (62, vi v13)] [some (.row 2 [.agg [eS 1 vi a2.a0, eS 1 vi a2.a1]])]) ?_ ?_
    ·rintro ⟨⟩ h
     refine q6 ?_
     obtain ⟨c34, h⟩ := ck h
     refine jo 92 (.bin .add false 62 (ki 1)) (r_add rfl rfl c34) ?_
     refine jk 1 (.d (.k4 (.i 62 (vi (v13 + 1)) .n))) ?_
     exact Vs.intro Sees.refl ⟨(v13 + 1), rfl, h⟩
    intro k3 h
    refine q4 ?_
    refine sj ?_
    refine rk 1 (.k4 (.k (.i 64 (vi v13) .n))) ?_
    obtain ⟨c27, h⟩ := ck h
    refine jo 65 (.iaddr 2 60 62) (ok_iaddr_m (j := v13.toNat) rfl rfl (inB_to c27) (inB_lt c27)) ?_
    obtain ⟨c28, h⟩ := ck h
    refine jo 66 (.load true 2 65) (ok_load_fm (v := .agg [vt ((ix a0 v13.toNat).Name), eS 2 eRange ((ix a0 v13.toNat).Ranges)]) rfl c28 rfl) ?_
    refine jko 3 (.d2 (.k4 (.k (.i 15 (.ptr 1 0 0) (.i 14 (vi v13) .n))))) [some (.row 2 [.agg [eS 1 vi a2.a0, eS 1 vi a2.a1]]), some (.row 2 [.agg [vt ((ix a0 v13.toNat).Name), eS 2 eRange ((ix a0 v13.toNat).Ranges)]])] ?_
    refine sj ?_
    refine rk 1 (.k4 (.k3 (.i 67 (eS 2 eOfferedPart a1) .n))) ?_
    refine jo 68 (.len 0 67) (ok_len_m rfl) ?_
    refine jk 1 (.d (.k4 (.k4 (.i 68 (vi (a1.length : Int)) (.i 69 (vi 0) .n))))) ?_
    refine q4 ?_
    refine TriE.loopN h (fun (v17 : Int) => St.mk [(1, eS 2 eOfferedPart a1), (5, .ptr 0 0 0), (60, eS 2 eWantedPart a0), (61, vi (a0.length : Int)), (62, vi v13), (15, .ptr 1 0 0), (14, vi v13), (67, eS 2 eOfferedPart a1), (68, vi (a1.length : Int)), (69, vi v17)] [some (.row 2 [.agg [eS 1 vi a2.a0, eS 1 vi a2.a1]]), some (.row 2 [.agg [vt ((ix a0 v13.toNat).Name), eS 2 eRange ((ix a0 v13.toNat).Ranges)]])]) rfl ?_
    clear h
    rintro back v17 h
    dsimp only [restore_CheckCover_L3] at h
    refine sk (.k4 (.k4 (.k2 (.i 70 (vb (decide (v17 < (a1.length : Int)))) .n)))) ?_
    refine q1 ?_
    refine tc h (fun c29 h => ?_) (fun c29 h => ?_)
    ·refine q2 ?_
     refine q7 ?_
     refine sj ?_
     refine rk 1 (.k4 (.k4 (.k2 (.i 71 (vi v17) .n)))) ?_
     obtain ⟨c30, h⟩ := ck h
     refine jo 72 (.iaddr 2 67 69) (ok_iaddr_m (j := v17.toNat) rfl rfl (inB_to c30) (inB_lt c30)) ?_
     obtain ⟨c31, h⟩ := ck h
     refine jo 73 (.load true 2 72) (ok_load_fm (v := .agg [vt ((ix a1 v17.toNat).Name), eS 1 vi ((ix a1 v17.toNat).Sizes)]) rfl c31 rfl) ?_
     refine jko 3 (.d2 (.k4 (.k4 (.k2 (.i 17 (.ptr 2 0 0) (.i 16 (vi v17) .n)))))) [some (.row 2 [.agg [eS 1 vi a2.a0, eS 1 vi a2.a1]]), some (.row 2 [.agg [vt ((ix a0 v13.toNat).Name), eS 2 eRange ((ix a0 v13.toNat).Ranges)]]), some (.row 2 [.agg [vt ((ix a1 v17.toNat).Name), eS 1 vi ((ix a1 v17.toNat).Sizes)]])] ?_
     refine sj ?_
     refine rk 2 (.k4 (.k4 (.k2 (.d (.k (.i 74 (.agg [vt ((ix a0 v13.toNat).Name), eS 2 eRange ((ix a0 v13.toNat).Ranges)]) (.i 75 (.agg [vt ((ix a1 v17.toNat).Name), eS 1 vi ((ix a1 v17.toNat).Sizes)]) .n))))))) ?_
     obtain ⟨y18, hy18, h⟩ := bs h
     refine jc 76 [74, 75] (restore_fits_ok n (ix a0 v13.toNat) (ix a1 v17.toNat) y18 hy18) ?_
     refine rk 1 (.d (.k4 (.k4 (.k3 (.i 77 (vb y18) .n))))) ?_
     refine gj (.ptr 0 0 0) 78 (.aaddr 2 1 5 (ki 0)) 77 true rfl ?_
     refine gk (eS 1 vi a2.a0) 79 (.load false 1 78) 77 true rfl (fun hg => (.cons hg .nil)) ?_
     refine gj (vi v13) 80 (.mov 14) 77 true rfl ?_
     obtain ⟨y19, hy19, h⟩ := bs h
     refine gc 81 [79, 80] 77 true rfl (fun hg => slices_Contains_int_ok n a2.a0 v13 y19 (gcall_some hy19 hg)) (fun hg => (.cons rfl (.cons hg (.cons hg .nil)))) (fun hg => by kernel_rfl) ?_
     refine gk (vb (!y19)) 82 (.un .not 81) 77 true rfl (fun hg => (.cons hg .nil)) ?_
     refine pa 83 77 82 rfl rfl ?_
     refine rk 1 (.d4 (.d2 (.k4 (.k4 (.k3 (.i 78 (.cond y18 (.ptr 0 0 0)) (.i 79 (.cond y18 (eS 1 vi a2.a0)) (.i 80 (.cond y18 (vi v13)) (.i 81 (.cond y18 (vb y19)) (.i 82 (.cond y18 (vb (!y19))) (.i 84 (vb (y18 && (!y19))) .n))))))))))) ?_
     refine gj (.ptr 0 0 1) 85 (.aaddr 2 1 5 (ki 1)) 84 true rfl ?_
     refine gk (eS 1 vi a2.a1) 86 (.load false 1 85) 84 true rfl (fun hg => (.cons hg .nil)) ?_
     refine gj (vi v17) 87 (.mov 16) 84 true rfl ?_
     obtain ⟨y20, hy20, h⟩ := bs h
     refine gc 88 [86, 87] 84 true rfl (fun hg => slices_Contains_int_ok n a2.a1 v17 y20 (gcall_some hy20 hg)) (fun hg => (.cons rfl (.cons hg (.cons hg .nil)))) (fun hg => by kernel_rfl) ?_
     refine gk (vb (!y20)) 89 (.un .not 88) 84 true rfl (fun hg => (.cons hg .nil)) ?_
     refine pa 90 84 89 rfl rfl ?_
     refine jf (.d4 (.d2 (.k4 (.k4 (.k2 (.i 90 (vb ((y18 && (!y19)) && (!y20))) .n)))))) ?_
     refine tc h (fun c32 h => ?_) (fun c32 h => ?_)
     ·refine sk (.i 6 (vi 0) (.i 7 (vi 14) .n)) ?_
      refine q3 ?_
      have h := si h
      subst h
      exact DoneS.ret (S' := ⟨[(6, vi 0), (7, vi 14)], []⟩) (sc [] (by decide) (by kernel_rfl) ObRen.nil rfl rfl) rfl rfl
     refine q2 ?_
     refine q6 ?_
     obtain ⟨c33, h⟩ := ck h
     refine jo 91 (.bin .add false 69 (ki 1)) (r_add rfl rfl c33) ?_
     refine jk 1 (.d (.k4 (.k4 (.k (.i 69 (vi (v17 + 1)) .n))))) ?_
     exact Vs.intro (sc [0, 1] (by decide) (by kernel_rfl) (.cons rfl (.cons rfl .nil)) rfl rfl) ⟨(v17 + 1), rfl, h⟩
    refine q5 ?_
    exact Vs.intro (sc [0] (by decide) (by kernel_rfl) (.cons rfl .nil) rfl rfl) ⟨(), rfl, h⟩
   refine q5 ?_
   exact Vs.intro sy ⟨(), rfl, h⟩
  intro k2 h
  refine q4 ?_
  refine sk (.k4 (.k (.i 12 (eS 1 vi a2.a1) .n))) ?_
  refine sk (.k4 (.k2 (.i 13 (vi 1) .n))) ?_
  refine q4 ?_
  refine TriE.loopN h (fun (v5 : Int) => St.mk [(0, eS 2 eWantedPart a0), (1, eS 2 eOfferedPart a1), (5, .ptr 0 0 0), (39, .agg [eS 1 vi a2.a0, eS 1 vi a2.a1]), (40, vi 1), (12, eS 1 vi a2.a1), (13, vi v5)] [some (.row 2 [.agg [eS 1 vi a2.a0, eS 1 vi a2.a1]])]) rfl ?_
  clear h
  rintro back v5 h
  dsimp only [restore_CheckCover_L2] at h
  refine q1 ?_
  refine sj ?_
  refine rk 2 (.k4 (.k3 (.i 43 (vi v5) (.i 44 (eS 1 vi a2.a1) .n)))) ?_
  refine jo 45 (.len 0 44) (ok_len_m rfl) ?_
  refine jk 1 (.d (.k4 (.k3 (.i 46 (vb (decide (v5 < ((a2.a1.length : Nat) : Int)))) .n)))) ?_
  refine tc h (fun c17 h => ?_) (fun c17 h => ?_)
  ·refine q2 ?_
   refine q7 ?_
   refine q1 ?_
   refine ts (.k4 (.k3 .n)) ?_
   refine TriE.draw (by kernel_rfl) ?_
   refine dk 2 (.i 50 (vi v5) (.i 49 (eS 1 vi a2.a1) .a)) ?_
   obtain ⟨c18, h⟩ := ck h
   refine dp 51 (.iaddr 1 49 50) (ok_iaddr_m (j := v5.toNat) rfl rfl (inB_to c18) (inB_lt c18)) ?_
   obtain ⟨c19, h⟩ := ck h
   refine dp 52 (.load false 1 51) (ok_load_fm (v := vi (ix a2.a1 v5.toNat)) rfl c19 rfl) ?_
   refine dk 2 (.i 54 (vi v5) (.i 53 (eS 1 vi a2.a1) .a)) ?_
   obtain ⟨c20, h⟩ := ck h
   refine dp 55 (.bin .sub false 54 (ki 1)) (r_sub rfl rfl c20) ?_
   obtain ⟨c21, h⟩ := ck h
   refine dp 56 (.iaddr 1 53 55) (ok_iaddr_m (j := (v5 - 1).toNat) rfl rfl (inB_to c21) (inB_lt c21)) ?_
   obtain ⟨c22, h⟩ := ck h
   refine dp 57 (.load false 1 56) (ok_load_fm (v := vi (ix a2.a1 ((v5 - 1).toNat))) rfl c22 rfl) ?_
   refine dk 1 (.i 58 (vb (decide ((ix a2.a1 v5.toNat) ≤ (ix a2.a1 ((v5 - 1).toNat))))) .a) ?_
   refine dfi (ob' := [some (.row 2 [.agg [eS 1 vi a2.a0, eS 1 vi a2.a1]])]) (.d4 (.d4 (.d2 (.k4 (.k3 (.i 58 (vb (decide ((ix a2.a1 v5.toNat) ≤ (ix a2.a1 ((v5 - 1).toNat))))) .n)))))) [0] (.cons rfl .nil) ?_
   refine tc h (fun c23 h => ?_) (fun c23 h => ?_)
   ·refine sk (.i 6 (vi 0) (.i 7 (vi 9) .n)) ?_
    refine q3 ?_
    have h := si h
    subst h
    exact DoneS.ret (S' := ⟨[(6, vi 0), (7, vi 9)], []⟩) (sc [] (by decide) (by kernel_rfl) ObRen.nil rfl rfl) rfl rfl
   refine q2 ?_
   refine q6 ?_
   refine rk 1 (.k4 (.k2 (.i 47 (vi v5) .n))) ?_
   obtain ⟨c24, h⟩ := ck h
   refine jo 48 (.bin .add false 47 (ki 1)) (r_add rfl rfl c24) ?_
   refine jk 1 (.d (.k4 (.k2 (.i 13 (vi (v5 + 1)) .n)))) ?_
   exact Vs.intro Sees.refl ⟨(v5 + 1), rfl, h⟩
  refine q5 ?_
  exact Vs.intro sy ⟨(), rfl, h⟩
 intro k1 h
 refine q4 ?_
 refine sk (.k4 (.k (.i 12 (eS 1 vi a2.a0) .n))) ?_
 refine sk (.k4 (.k2 (.i 13 (vi 1) .n))) ?_
 refine q4 ?_
 refine TriE.sees (S' := ⟨[(0, eS 2 eWantedPart a0), (1, eS 2 eOfferedPart a1), (5, .ptr 0 0 0), (39, .agg [eS 1 vi a2.a0, eS 1 vi a2.a1]), (40, vi 0), (12, eS 1 vi a2.a0), (13, vi 1)], [some (.row 2 [.agg [eS 1 vi a2.a0, eS 1 vi a2.a1]])]⟩) (sc [0] (by decide) (by kernel_rfl) (.cons rfl .nil) rfl rfl) ?_
 refine TriE.loopN h (fun (v4 : Int) => St.mk [(0, eS 2 eWantedPart a0), (1, eS 2 eOfferedPart a1), (5, .ptr 0 0 0), (39, .agg [eS 1 vi a2.a0, eS 1 vi a2.a1]), (40, vi 0), (12, eS 1 vi a2.a0), (13, vi v4)] [some (.row 2 [.agg [eS 1 vi a2.a0, eS 1 vi a2.a1]])]) rfl ?_
 clear h
 rintro back v4 h
 dsimp only [restore_CheckCover_L1] at h
 refine q1 ?_
 refine sj ?_
 refine rk 2 (.k4 (.k3 (.i 43 (vi v4) (.i 44 (eS 1 vi a2.a0) .n)))) ?_
 refine jo 45 (.len 0 44) (ok_len_m rfl) ?_
 refine jk 1 (.d (.k4 (.k3 (.i 46 (vb (decide (v4 < ((a2.a0.length : Nat) : Int)))) .n)))) ?_
 refine tc h (fun c8 h => ?_) (fun c8 h => ?_)
 ·refine q2 ?_
  refine q7 ?_
  refine q1 ?_
  refine ts (.k4 (.k3 .n)) ?_
  refine TriE.draw (by kernel_rfl) ?_
  refine dk 2 (.i 50 (vi v4) (.i 49 (eS 1 vi a2.a0) .a)) ?_
  obtain ⟨c9, h⟩ := ck h
  refine dp 51 (.iaddr 1 49 50) (ok_iaddr_m (j := v4.toNat) rfl rfl (inB_to c9) (inB_lt c9)) ?_
  obtain ⟨c10, h⟩ := ck h
  refine dp 52 (.load false 1 51) (ok_load_fm (v := vi (ix a2.a0 v4.toNat)) rfl c10 rfl) ?_
  refine dk 2 (.i 54 (vi v4) (.i 53 (eS 1 vi a2.a0) .a)) ?_
  obtain ⟨c11, h⟩ := ck h
  refine dp 55 (.bin .sub false 54 (ki 1)) (r_sub rfl rfl c11) ?_
  obtain ⟨c12, h⟩ := ck h
  refine dp 56 (.iaddr 1 53 55) (ok_iaddr_m (j := (v4 - 1).toNat) rfl rfl (inB_to c12) (inB_lt c12)) ?_
  obtain ⟨c13, h⟩ := ck h
  refine dp 57 (.load false 1 56) (ok_load_fm (v := vi (ix a2.a0 ((v4 - 1).toNat))) rfl c13 rfl) ?_
  refine dk 1 (.i 58 (vb (decide ((ix a2.a0 v4.toNat) ≤ (ix a2.a0 ((v4 - 1).toNat))))) .a) ?_
  refine dfi (ob' := [some (.row 2 [.agg [eS 1 vi a2.a0, eS 1 vi a2.a1]])]) (.d4 (.d4 (.d2 (.k4 (.k3 (.i 58 (vb (decide ((ix a2.a0 v4.toNat) ≤ (ix a2.a0 ((v4 - 1).toNat))))) .n)))))) [0] (.cons rfl .nil) ?_
  refine tc h (fun c14 h => ?_) (fun c14 h => ?_)
  ·refine sk (.i 6 (vi 0) (.i 7 (vi 9) .n)) ?_
   refine q3 ?_
   have h := si h
   subst h
   exact DoneS.ret (S' := ⟨[(6, vi 0), (7, vi 9)], []⟩) (sc [] (by decide) (by kernel_rfl) ObRen.nil rfl rfl) rfl rfl
  refine q2 ?_
  refine q6 ?_
  refine rk 1 (.k4 (.k2 (.i 47 (vi v4) .n))) ?_
  obtain ⟨c15, h⟩ := ck h
  refine jo 48 (.bin .add false 47 (ki 1)) (r_add rfl rfl c15) ?_
  refine jk 1 (.d (.k4 (.k2 (.i 13 (vi (v4 + 1)) .n)))) ?_
  exact Vs.intro Sees.refl ⟨(v4 + 1), rfl, h⟩
 refine q5 ?_
 exact Vs.intro sy ⟨(), rfl, h⟩
set_option maxHeartbeats 1000000 in
theorem agrafferef08_CheckWanted_ok (n : Nat) (a0 : List WantedPart) (r : Int) (h : agrafferef08_CheckWanted n a0 = some r) : FnL Tryz.prog 120 [eS 2 eWantedPart a0] [] (vi r) [] := by
 dsimp only [agrafferef08_CheckWanted] at h
 refine fo [2] Tryz.call120 Tryz.func120 rfl ?_
 refine sk .a ?_
 refine q1 ?_
 refine sj ?_
 refine rk 1 (.k (.i 7 (eS 2 eWantedPart a0) .n)) ?_
 refine jo 8 (.len 0 7) (ok_len_m rfl) ?_
 refine jo 9 (.bin .gtr false 8 (ki 40)) (n_gtr (i := a0.length) (j := 40) rfl rfl) ?_
 refine jf (.d2 (.k (.i 9 (vb (decide (40 < a0.length))) .n))) ?_
 refine tc h (fun c1 h => ?_) (fun c1 h => ?_)
 ·refine sk (.i 2 (vi 8) .n) ?_
  refine q3 ?_
  have h := si h
  subst h
  exact DoneS.ret Sees.refl rfl rfl
 refine q2 ?_
 refine sk (.k (.i 3 .emp .n)) ?_
 refine TriE.seqK h (fun (_ : Unit) => St.mk [] []) ?_ ?_
 ·rintro ⟨⟩ h
  refine sk (.i 2 (vi 0) .n) ?_
  refine q3 ?_
  have h := si h
  subst h
  exact DoneS.ret Sees.refl rfl rfl
 intro k2 h
 refine sk (.k2 (.i 4 (vi 0) .n)) ?_
 refine q4 ?_
 refine TriE.sees (S' := ⟨[(0, eS 2 eWantedPart a0), (3, .own 0 0 ([] : List Str).length), (4, vi 0)], [some (.row 1 (List.map vt ([] : List Str)))]⟩) (Sees.trans (Sees.co (fr' := [(0, eS 2 eWantedPart a0), (3, .own 0 0 0), (4, vi 0)]) (ob' := []) (.cons .same (.cons .own (.cons .same .nil))) ObCo.nil 1) sy) ?_
 refine TriE.loopN h (fun (t : (List Str) × Nat) => match t with | (v7, v8) => St.mk [(0, eS 2 eWantedPart a0), (3, .own 0 0 v7.length), (4, vi v8)] [some (.row 1 (List.map vt v7))]) rfl ?_
 clear h
 rintro back ⟨v7, v8⟩ h
 dsimp only [agrafferef08_CheckWanted_L2] at h
 refine q1 ?_
 refine sj ?_
 refine rk 2 (.k3 (.i 10 (vi v8) (.i 11 (eS 2 eWantedPart a0) .n))) ?_
 refine jo 12 (.len 0 11) (ok_len_m rfl) ?_
 refine jo 13 (.bin .lss false 10 12) (n_lss (i := v8) (j := a0.length) rfl rfl) ?_
 refine jf (.d2 (.k3 (.i 13 (vb (decide (v8 < a0.length))) .n))) ?_
 refine tc h (fun c2 h => ?_) (fun c2 h => ?_)
 ·refine q2 ?_
  refine TriE.seqK h (fun (_ : Unit) => St.mk [(0, eS 2 eWantedPart a0), (4, vi v8), (3, .own 0 0 ((v7 ++ ([(ix a0 v8).Name] : List Str)).length))] [some (.row 1 (List.map vt (v7 ++ ([(ix a0 v8).Name] : List Str))))]) ?_ ?_
  ·rintro ⟨⟩ h
   refine q6 ?_
   refine rk 1 (.k (.d (.k (.i 14 (vi v8) .n)))) ?_
   obtain ⟨c11, h⟩ := ck h
   refine jo 15 (.bin .add false 14 (ki 1)) (r_addn (i := v8) (j := 1) rfl rfl c11) ?_
   refine jk 1 (.d (.k2 (.i 4 (vi ((v8 + 1 : Nat) : Int)) .n))) ?_
   exact Vs.intro sy ⟨((v7 ++ ([(ix a0 v8).Name] : List Str)), v8 + 1), rfl, h⟩
  intro k1 h
  refine q4 ?_
  refine q1 ?_
  refine sj ?_
  refine rk 2 (.k3 (.i 16 (eS 2 eWantedPart a0) (.i 17 (vi v8) .n))) ?_
  refine jo 18 (.iaddr 2 16 17) (ok_iaddr_m (j := v8) rfl rfl rfl c2) ?_
  refine rk 1 (.d (.k3 (.i 19 (.fptr 2 (List.map eWantedPart a0) v8 0) .n))) ?_
  refine jo 20 (.load false 1 19) (ok_load_fm (v := vt ((ix a0 v8).Name)) rfl c2 rfl) ?_
  obtain ⟨y9, hy9, h⟩ := bs h
  refine jc 21 [20] (agraffebase_IsName_ok n ((ix a0 v8).Name) y9 hy9) ?_
  refine jk 1 (.d2 (.k3 (.i 22 (vb (!y9)) .n))) ?_
  refine tc h (fun c3 h => ?_) (fun c3 h => ?_)
  ·refine sk (.i 2 (vi 4) .n) ?_
   refine q3 ?_
   have h := si h
   subst h
   exact DoneS.ret (S' := ⟨[(2, vi 4)], []⟩) (sc [] (by decide) (by kernel_rfl) ObRen.nil rfl rfl) rfl rfl
  refine q2 ?_
  refine q1 ?_
  refine sj ?_
  refine rk 3 (.k3 (.i 23 (.own 0 0 v7.length) (.i 24 (eS 2 eWantedPart a0) (.i 25 (vi v8) .n)))) ?_
  refine jo 26 (.iaddr 2 24 25) (ok_iaddr_m (j := v8) rfl rfl rfl c2) ?_
  refine rk 1 (.d (.k4 (.i 27 (.fptr 2 (List.map eWantedPart a0) v8 0) .n))) ?_
  refine jo 28 (.load false 1 27) (ok_load_fm (v := vt ((ix a0 v8).Name)) rfl c2 rfl) ?_
  obtain ⟨y10, hy10, h⟩ := bs h
  refine jco (vb y10) 29 [23, 28] (agraffebase_HasText_2_ok n v7 ((ix a0 v8).Name) y10 hy10) [0] rfl (.same (row_ren vt_frz _ _ _) .nil) (.same (row_ren vt_frz _ _ _) .nil) rfl ?_
  refine jf (.d2 (.k3 (.i 29 (vb y10) .n))) ?_
  refine tc h (fun c4 h => ?_) (fun c4 h => ?_)
  ·refine sk (.i 2 (vi 5) .n) ?_
   refine q3 ?_
   have h := si h
   subst h
   exact DoneS.ret (S' := ⟨[(2, vi 5)], []⟩) (sc [] (by decide) (by kernel_rfl) ObRen.nil rfl rfl) rfl rfl
  refine q2 ?_
  refine sj ?_
  refine rk 3 (.k (.d (.k (.i 30 (.own 0 0 v7.length) (.i 31 (eS 2 eWantedPart a0) (.i 32 (vi v8) .n)))))) ?_
  refine jo 33 (.iaddr 2 31 32) (ok_iaddr_m (j := v8) rfl rfl rfl c2) ?_
  refine rk 1 (.d (.k3 (.i 34 (.fptr 2 (List.map eWantedPart a0) v8 0) .n))) ?_
  refine jo 35 (.load false 1 34) (ok_load_fm (v := vt ((ix a0 v8).Name)) rfl c2 rfl) ?_
  refine rko 1 (.d (.k3 (.i 36 (.own 1 0 1) .n))) [some (.row 1 (List.map vt v7)), some (.row 1 [vt ((ix a0 v8).Name)])] ?_
  obtain ⟨c5, h⟩ := ck h
  refine jx 37 (.app 1 16 30 36) _ (ok_app_own (l := v7) (l2 := ([(ix a0 v8).Name] : List Str)) (e := vt) (u := .own 1 0 1) rfl rfl rfl rfl rfl c5) rfl rfl ?_
  refine jk 1 (.d (.k2 (.i 3 (.own 2 0 ((v7 ++ ([(ix a0 v8).Name] : List Str)).length)) .n))) ?_
  refine q1 ?_
  refine sj ?_
  refine rk 2 (.k3 (.i 38 (eS 2 eWantedPart a0) (.i 39 (vi v8) .n))) ?_
  refine jo 40 (.iaddr 2 38 39) (ok_iaddr_m (j := v8) rfl rfl rfl c2) ?_
  refine rk 1 (.d (.k3 (.i 41 (.fptr 2 (List.map eWantedPart a0) v8 1) .n))) ?_
  refine jo 42 (.load false 1 41) (ok_load_fm (v := eS 2 eRange ((ix a0 v8).Ranges)) rfl c2 rfl) ?_
  refine jo 43 (.len 0 42) (ok_len_m rfl) ?_
  obtain ⟨y11, hy11, h⟩ := bs h
  refine jc 44 [43, (ki 1), (ki 6)] (agraffebase_Within_ok n ((((ix a0 v8).Ranges).length : Nat) : Int) 1 6 y11 hy11) ?_
  refine jk 1 (.d3 (.k3 (.i 45 (vb (!((decide (1 ≤ ((((ix a0 v8).Ranges).length : Nat) : Int))) && (decide (((((ix a0 v8).Ranges).length : Nat) : Int) ≤ 6))))) .n))) ?_
  refine tc h (fun c6 h => ?_) (fun c6 h => ?_)
  ·refine sk (.i 2 (vi 10) .n) ?_
   refine q3 ?_
   have h := si h
   subst h
   exact DoneS.ret (S' := ⟨[(2, vi 10)], []⟩) (sc [] (by decide) (by kernel_rfl) ObRen.nil rfl rfl) rfl rfl
  refine q2 ?_
  refine sk (.k3 (.i 5 (vi 0) .n)) ?_
  refine q4 ?_
  refine TriE.sees (S' := ⟨[(0, eS 2 eWantedPart a0), (4, vi v8), (3, .own 0 0 ((v7 ++ ([(ix a0 v8).Name] : List Str)).length)), (5, vi 0)], [some (.row 1 (List.map vt (v7 ++ ([(ix a0 v8).Name] : List Str))))]⟩) (sc [2] (by decide) (by kernel_rfl) (obRen_row vt_frz rfl .nil) rfl rfl) ?_
  refine TriE.loopN h (fun (v13 : Nat) => St.mk [(0, eS 2 eWantedPart a0), (4, vi v8), (3, .own 0 0 ((v7 ++ ([(ix a0 v8).Name] : List Str)).length)), (5, vi v13)] [some (.row 1 (List.map vt (v7 ++ ([(ix a0 v8).Name] : List Str))))]) rfl ?_
  clear h
  rintro back v13 h
  dsimp only [agrafferef08_CheckWanted_L1] at h
  refine q1 ?_
  refine sj ?_
  refine rk 3 (.k4 (.i 46 (vi v13) (.i 47 (eS 2 eWantedPart a0) (.i 48 (vi v8) .n)))) ?_
  refine jo 49 (.iaddr 2 47 48) (ok_iaddr_m (j := v8) rfl rfl rfl c2) ?_
  refine rk 1 (.d (.k4 (.k (.i 50 (.fptr 2 (List.map eWantedPart a0) v8 1) .n)))) ?_
  refine jo 51 (.load false 1 50) (ok_load_fm (v := eS 2 eRange ((ix a0 v8).Ranges)) rfl c2 rfl) ?_
  refine jo 52 (.len 0 51) (ok_len_m rfl) ?_
  refine jo 53 (.bin .lss false 46 52) (n_lss (i := v13) (j := ((ix a0 v8).Ranges).length) rfl rfl) ?_
  refine jf (.d3 (.k4 (.i 53 (vb (decide (v13 < (((ix a0 v8).Ranges).length)))) .n))) ?_
  refine tc h (fun c7 h => ?_) (fun c7 h => ?_)
  ·refine q2 ?_
   refine q7 ?_
   refine sj ?_
   refine rk 2 (.k4 (.i 56 (eS 2 eWantedPart a0) (.i 57 (vi v8) .n))) ?_
   refine jo 58 (.iaddr 2 56 57) (ok_iaddr_m (j := v8) rfl rfl rfl c2) ?_
   refine rk 1 (.d (.k4 (.i 59 (.fptr 2 (List.map eWantedPart a0) v8 1) .n))) ?_
   refine jo 60 (.load false 1 59) (ok_load_fm (v := eS 2 eRange ((ix a0 v8).Ranges)) rfl c2 rfl) ?_
   refine rk 1 (.d (.k4 (.i 60 (eS 2 eRange ((ix a0 v8).Ranges)) (.i 61 (vi v13) .n)))) ?_
   obtain ⟨c8, h⟩ := ck h
   refine jo 62 (.iaddr 2 60 61) (ok_iaddr_m (j := v13) rfl rfl rfl c8) ?_
   refine jo 63 (.load true 2 62) (ok_load_fm (v := .agg [vi ((ix ((ix a0 v8).Ranges) v13).Lo), vi ((ix ((ix a0 v8).Ranges) v13).Hi)]) rfl c8 rfl) ?_
   refine jko 2 (.d2 (.k4 (.i 6 (.ptr 1 0 0) .n))) [some (.row 1 (List.map vt (v7 ++ ([(ix a0 v8).Name] : List Str)))), some (.row 2 [.agg [vi ((ix ((ix a0 v8).Ranges) v13).Lo), vi ((ix ((ix a0 v8).Ranges) v13).Hi)]])] ?_
   refine sj ?_
   refine rk 4 (.k4 (.k (.i 65 (vi ((ix ((ix a0 v8).Ranges) v13).Lo)) (.i 67 (vi ((ix ((ix a0 v8).Ranges) v13).Hi)) .n)))) ?_
   obtain ⟨y14, hy14, h⟩ := bs h
   refine jc 68 [65, (ki 0), 67] (agraffebase_Within_ok n ((ix ((ix a0 v8).Ranges) v13).Lo) 0 ((ix ((ix a0 v8).Ranges) v13).Hi) y14 hy14) ?_
   refine rk 2 (.d (.k4 (.k (.i 70 (vb (!((decide (0 ≤ ((ix ((ix a0 v8).Ranges) v13).Lo))) && (decide (((ix ((ix a0 v8).Ranges) v13).Lo) ≤ ((ix ((ix a0 v8).Ranges) v13).Hi)))))) .n)))) ?_
   refine gj (.ptr 1 0 1) 71 (.faddr 1 6) 70 false rfl ?_
   refine gk (vi ((ix ((ix a0 v8).Ranges) v13).Hi)) 72 (.load false 1 71) 70 false rfl (fun hg => (.cons hg .nil)) ?_
   refine gk (vb (decide ((1000000 : Int) < ((ix ((ix a0 v8).Ranges) v13).Hi)))) 73 (.bin .gtr false 72 (ki 1000000)) 70 false rfl (fun hg => (.cons hg (.cons rfl .nil))) ?_
   refine po 74 70 73 rfl rfl ?_
   refine jf (.d4 (.k4 (.i 74 (vb ((!((decide (0 ≤ ((ix ((ix a0 v8).Ranges) v13).Lo))) && (decide (((ix ((ix a0 v8).Ranges) v13).Lo) ≤ ((ix ((ix a0 v8).Ranges) v13).Hi))))) || (decide ((1000000 : Int) < ((ix ((ix a0 v8).Ranges) v13).Hi))))) .n))) ?_
   refine tc h (fun c9 h => ?_) (fun c9 h => ?_)
   ·refine sk (.i 2 (vi 2) .n) ?_
    refine q3 ?_
    have h := si h
    subst h
    exact DoneS.ret (S' := ⟨[(2, vi 2)], []⟩) (sc [] (by decide) (by kernel_rfl) ObRen.nil rfl rfl) rfl rfl
   refine q2 ?_
   refine q6 ?_
   refine rk 1 (.k3 (.i 54 (vi v13) .n)) ?_
   obtain ⟨c10, h⟩ := ck h
   refine jo 55 (.bin .add false 54 (ki 1)) (r_addn (i := v13) (j := 1) rfl rfl c10) ?_
   refine jk 1 (.d (.k3 (.i 5 (vi ((v13 + 1 : Nat) : Int)) .n))) ?_
   exact Vs.intro (sc [0] (by decide) (by kernel_rfl) (obRen_row vt_frz rfl .nil) rfl rfl) ⟨(v13 + 1), rfl, h⟩
  refine q5 ?_
  exact Vs.intro sy ⟨(), rfl, h⟩
 refine q5 ?_
 exact Vs.intro (sc [] (by decide) (by kernel_rfl) ObRen.nil rfl rfl) ⟨(), rfl, h⟩
set_option maxHeartbeats 1000000 in
theorem agrafferef08_CheckOffered_ok (n : Nat) (a0 : List OfferedPart) (r : Int) (h : agrafferef08_CheckOffered n a0 = some r) : FnL Tryz.prog 121 [eS 2 eOfferedPart a0] [] (vi r) [] := by
 dsimp only [agrafferef08_CheckOffered] at h
 refine fo [2] Tryz.call121 Tryz.func121 rfl ?_
 refine sk .a ?_
 refine q1 ?_
 refine sj ?_
 refine rk 1 (.k (.i 6 (eS 2 eOfferedPart a0) .n)) ?_
 refine jo 7 (.len 0 6) (ok_len_m rfl) ?_
 refine jo 8 (.bin .gtr false 7 (ki 40)) (n_gtr (i := a0.length) (j := 40) rfl rfl) ?_
 refine jf (.d2 (.k (.i 8 (vb (decide (40 < a0.length))) .n))) ?_
 refine tc h (fun c1 h => ?_) (fun c1 h => ?_)
 ·refine sk (.i 2 (vi 8) .n) ?_
  refine q3 ?_
  have h := si h
  subst h
  exact DoneS.ret Sees.refl rfl rfl
 refine q2 ?_
 refine sk (.k (.i 3 .emp .n)) ?_
 refine TriE.seqK h (fun (_ : Unit) => St.mk [] []) ?_ ?_
 ·rintro ⟨⟩ h
  refine sk (.i 2 (vi 0) .n) ?_
  refine q3 ?_
  have h := si h
  subst h
  exact DoneS.ret Sees.refl rfl rfl
 intro k2 h
 refine sk (.k2 (.i 4 (vi 0) .n)) ?_
 refine q4 ?_
 refine TriE.sees (S' := ⟨[(0, eS 2 eOfferedPart a0), (3, .own 0 0 ([] : List Str).length), (4, vi 0)], [some (.row 1 (List.map vt ([] : List Str)))]⟩) (Sees.trans (Sees.co (fr' := [(0, eS 2 eOfferedPart a0), (3, .own 0 0 0), (4, vi 0)]) (ob' := []) (.cons .same (.cons .own (.cons .same .nil))) ObCo.nil 1) sy) ?_
 refine TriE.loopN h (fun (t : (List Str) × Nat) => match t with | (v7, v8) => St.mk [(0, eS 2 eOfferedPart a0), (3, .own 0 0 v7.length), (4, vi v8)] [some (.row 1 (List.map vt v7))]) rfl ?_
 clear h
 rintro back ⟨v7, v8⟩ h
 dsimp only [agrafferef08_CheckOffered_L2] at h
 refine q1 ?_
 refine sj ?_
 refine rk 2 (.k3 (.i 9 (vi v8) (.i 10 (eS 2 eOfferedPart a0) .n))) ?_
 refine jo 11 (.len 0 10) (ok_len_m rfl) ?_
 refine jo 12 (.bin .lss false 9 11) (n_lss (i := v8) (j := a0.length) rfl rfl) ?_
 refine jf (.d2 (.k3 (.i 12 (vb (decide (v8 < a0.length))) .n))) ?_
 refine tc h (fun c2 h => ?_) (fun c2 h => ?_)
 ·refine q2 ?_
  refine TriE.seqK h (fun (_ : Unit) => St.mk [(0, eS 2 eOfferedPart a0), (4, vi v8), (3, .own 0 0 ((v7 ++ ([(ix a0 v8).Name] : List Str)).length))] [some (.row 1 (List.map vt (v7 ++ ([(ix a0 v8).Name] : List Str))))]) ?_ ?_
  ·rintro ⟨⟩ h
   refine q6 ?_
   refine rk 1 (.k (.d (.k (.i 13 (vi v8) .n)))) ?_
   obtain ⟨c11, h⟩ := ck h
   refine jo 14 (.bin .add false 13 (ki 1)) (r_addn (i := v8) (j := 1) rfl rfl c11) ?_
   refine jk 1 (.d (.k2 (.i 4 (vi ((v8 + 1 : Nat) : Int)) .n))) ?_
   exact Vs.intro sy ⟨((v7 ++ ([(ix a0 v8).Name] : List Str)), v8 + 1), rfl, h⟩
  intro k1 h
  refine q4 ?_
  refine q1 ?_
  refine sj ?_
  refine rk 2 (.k3 (.i 15 (eS 2 eOfferedPart a0) (.i 16 (vi v8) .n))) ?_
  refine jo 17 (.iaddr 2 15 16) (ok_iaddr_m (j := v8) rfl rfl rfl c2) ?_
  refine rk 1 (.d (.k3 (.i 18 (.fptr 2 (List.map eOfferedPart a0) v8 0) .n))) ?_
  refine jo 19 (.load false 1 18) (ok_load_fm (v := vt ((ix a0 v8).Name)) rfl c2 rfl) ?_
  obtain ⟨y9, hy9, h⟩ := bs h
  refine jc 20 [19] (agraffebase_IsName_ok n ((ix a0 v8).Name) y9 hy9) ?_
  refine jk 1 (.d2 (.k3 (.i 21 (vb (!y9)) .n))) ?_
  refine tc h (fun c3 h => ?_) (fun c3 h => ?_)
  ·refine sk (.i 2 (vi 4) .n) ?_
   refine q3 ?_
   have h := si h
   subst h
   exact DoneS.ret (S' := ⟨[(2, vi 4)], []⟩) (sc [] (by decide) (by kernel_rfl) ObRen.nil rfl rfl) rfl rfl
  refine q2 ?_
  refine q1 ?_
  refine sj ?_
  refine rk 3 (.k3 (.i 22 (.own 0 0 v7.length) (.i 23 (eS 2 eOfferedPart a0) (.i 24 (vi v8) .n)))) ?_
  refine jo 25 (.iaddr 2 23 24) (ok_iaddr_m (j := v8) rfl rfl rfl c2) ?_
  refine rk 1 (.d (.k4 (.i 26 (.fptr 2 (List.map eOfferedPart a0) v8 0) .n))) ?_
  refine jo 27 (.load false 1 26) (ok_load_fm (v := vt ((ix a0 v8).Name)) rfl c2 rfl) ?_
  obtain ⟨y10, hy10, h⟩ := bs h
  refine jco (vb y10) 28 [22, 27] (agraffebase_HasText_2_ok n v7 ((ix a0 v8).Name) y10 hy10) [0] rfl (.same (row_ren vt_frz _ _ _) .nil) (.same (row_ren vt_frz _ _ _) .nil) rfl ?_
  refine jf (.d2 (.k3 (.i 28 (vb y10) .n))) ?_
  refine tc h (fun c4 h => ?_) (fun c4 h => ?_)
  ·refine sk (.i 2 (vi 5) .n) ?_
   refine q3 ?_
   have h := si h
   subst h
   exact DoneS.ret (S' := ⟨[(2, vi 5)], []⟩) (sc [] (by decide) (by kernel_rfl) ObRen.nil rfl rfl) rfl rfl
  refine q2 ?_
  refine sj ?_
  refine rk 3 (.k (.d (.k (.i 29 (.own 0 0 v7.length) (.i 30 (eS 2 eOfferedPart a0) (.i 31 (vi v8) .n)))))) ?_
  refine jo 32 (.iaddr 2 30 31) (ok_iaddr_m (j := v8) rfl rfl rfl c2) ?_
  refine rk 1 (.d (.k3 (.i 33 (.fptr 2 (List.map eOfferedPart a0) v8 0) .n))) ?_
  refine jo 34 (.load false 1 33) (ok_load_fm (v := vt ((ix a0 v8).Name)) rfl c2 rfl) ?_
  refine rko 1 (.d (.k3 (.i 35 (.own 1 0 1) .n))) [some (.row 1 (List.map vt v7)), some (.row 1 [vt ((ix a0 v8).Name)])] ?_
  obtain ⟨c5, h⟩ := ck h
  refine jx 36 (.app 1 16 29 35) _ (ok_app_own (l := v7) (l2 := ([(ix a0 v8).Name] : List Str)) (e := vt) (u := .own 1 0 1) rfl rfl rfl rfl rfl c5) rfl rfl ?_
  refine jk 1 (.d (.k2 (.i 3 (.own 2 0 ((v7 ++ ([(ix a0 v8).Name] : List Str)).length)) .n))) ?_
  refine q1 ?_
  refine sj ?_
  refine rk 2 (.k3 (.i 37 (eS 2 eOfferedPart a0) (.i 38 (vi v8) .n))) ?_
  refine jo 39 (.iaddr 2 37 38) (ok_iaddr_m (j := v8) rfl rfl rfl c2) ?_
  refine rk 1 (.d (.k3 (.i 40 (.fptr 2 (List.map eOfferedPart a0) v8 1) .n))) ?_
  refine jo 41 (.load false 1 40) (ok_load_fm (v := eS 1 vi ((ix a0 v8).Sizes)) rfl c2 rfl) ?_
  refine jo 42 (.len 0 41) (ok_len_m rfl) ?_
  obtain ⟨y11, hy11, h⟩ := bs h
  refine jc 43 [42, (ki 1), (ki 6)] (agraffebase_Within_ok n ((((ix a0 v8).Sizes).length : Nat) : Int) 1 6 y11 hy11) ?_
  refine jk 1 (.d3 (.k3 (.i 44 (vb (!((decide (1 ≤ ((((ix a0 v8).Sizes).length : Nat) : Int))) && (decide (((((ix a0 v8).Sizes).length : Nat) : Int) ≤ 6))))) .n))) ?_
  refine tc h (fun c6 h => ?_) (fun c6 h => ?_)
  ·refine sk (.i 2 (vi 10) .n) ?_
   refine q3 ?_
   have h := si h
   subst h
   exact DoneS.ret (S' := ⟨[(2, vi 10)], []⟩) (sc [] (by decide) (by kernel_rfl) ObRen.nil rfl rfl) rfl rfl
  refine q2 ?_
  refine sk (.k3 (.i 5 (vi 0) .n)) ?_
  refine q4 ?_
  refine TriE.sees (S' := ⟨[(0, eS 2 eOfferedPart a0), (4, vi v8), (3, .own 0 0 ((v7 ++ ([(ix a0 v8).Name] : List Str)).length)), (5, vi 0)], [some (.row 1 (List.map vt (v7 ++ ([(ix a0 v8).Name] : List Str))))]⟩) (sc [2] (by decide) (by kernel_rfl) (obRen_row vt_frz rfl .nil) rfl rfl) ?_
  refine TriE.loopN h (fun (v13 : Nat) => St.mk [(0, eS 2 eOfferedPart a0), (4, vi v8), (3, .own 0 0 ((v7 ++ ([(ix a0 v8).Name] : List Str)).length)), (5, vi v13)] [some (.row 1 (List.map vt (v7 ++ ([(ix a0 v8).Name] : List Str))))]) rfl ?_
  clear h
  rintro back v13 h
  dsimp only [agrafferef08_CheckOffered_L1] at h
  refine q1 ?_
  refine sj ?_
  refine rk 3 (.k4 (.i 45 (vi v13) (.i 46 (eS 2 eOfferedPart a0) (.i 47 (vi v8) .n)))) ?_
  refine jo 48 (.iaddr 2 46 47) (ok_iaddr_m (j := v8) rfl rfl rfl c2) ?_
  refine rk 1 (.d (.k4 (.k (.i 49 (.fptr 2 (List.map eOfferedPart a0) v8 1) .n)))) ?_
  refine jo 50 (.load false 1 49) (ok_load_fm (v := eS 1 vi ((ix a0 v8).Sizes)) rfl c2 rfl) ?_
  refine jo 51 (.len 0 50) (ok_len_m rfl) ?_
  refine jo 52 (.bin .lss false 45 51) (n_lss (i := v13) (j := ((ix a0 v8).Sizes).length) rfl rfl) ?_
  refine jf (.d3 (.k4 (.i 52 (vb (decide (v13 < (((ix a0 v8).Sizes).length)))) .n))) ?_
  refine tc h (fun c7 h => ?_) (fun c7 h => ?_)
  ·refine q2 ?_
   refine q7 ?_
   refine sj ?_
   refine rk 2 (.k4 (.i 55 (eS 2 eOfferedPart a0) (.i 56 (vi v8) .n))) ?_
   refine jo 57 (.iaddr 2 55 56) (ok_iaddr_m (j := v8) rfl rfl rfl c2) ?_
   refine rk 1 (.d (.k4 (.i 58 (.fptr 2 (List.map eOfferedPart a0) v8 1) .n))) ?_
   refine jo 59 (.load false 1 58) (ok_load_fm (v := eS 1 vi ((ix a0 v8).Sizes)) rfl c2 rfl) ?_
   refine rk 1 (.d (.k4 (.i 59 (eS 1 vi ((ix a0 v8).Sizes)) (.i 60 (vi v13) .n)))) ?_
   obtain ⟨c8, h⟩ := ck h
   refine jo 61 (.iaddr 1 59 60) (ok_iaddr_m (j := v13) rfl rfl rfl c8) ?_
   refine jo 62 (.load false 1 61) (ok_load_fm (v := vi (ix ((ix a0 v8).Sizes) v13)) rfl c8 rfl) ?_
   obtain ⟨y14, hy14, h⟩ := bs h
   refine jc 63 [62, (ki 0), (ki 1000000)] (agraffebase_Within_ok n (ix ((ix a0 v8).Sizes) v13) 0 1000000 y14 hy14) ?_
   refine jk 1 (.d3 (.k4 (.i 64 (vb (!((decide (0 ≤ (ix ((ix a0 v8).Sizes) v13))) && (decide ((ix ((ix a0 v8).Sizes) v13) ≤ 1000000))))) .n))) ?_
   refine tc h (fun c9 h => ?_) (fun c9 h => ?_)
   ·refine sk (.i 2 (vi 2) .n) ?_
    refine q3 ?_
    have h := si h
    subst h
    exact DoneS.ret (S' := ⟨[(2, vi 2)], []⟩) (sc [] (by decide) (by kernel_rfl) ObRen.nil rfl rfl) rfl rfl
   refine q2 ?_
   refine q6 ?_
   refine rk 1 (.k3 (.i 53 (vi v13) .n)) ?_
   obtain ⟨c10, h⟩ := ck h
   refine jo 54 (.bin .add false 53 (ki 1)) (r_addn (i := v13) (j := 1) rfl rfl c10) ?_
   refine jk 1 (.d (.k3 (.i 5 (vi ((v13 + 1 : Nat) : Int)) .n))) ?_
   exact Vs.intro sy ⟨(v13 + 1), rfl, h⟩
  refine q5 ?_
  exact Vs.intro sy ⟨(), rfl, h⟩
 refine q5 ?_
 exact Vs.intro (sc [] (by decide) (by kernel_rfl) ObRen.nil rfl rfl) ⟨(), rfl, h⟩
theorem agrafferef08_CheckBoth_ok (n : Nat) (a0 : List WantedPart) (a1 : List OfferedPart) (r : Int) (h : agrafferef08_CheckBoth n a0 a1 = some r) : FnL Tryz.prog 55 [eS 2 eWantedPart a0, eS 2 eOfferedPart a1] [] (vi r) [] := by
 dsimp only [agrafferef08_CheckBoth] at h
 refine fo [4] Tryz.call55 Tryz.func55 rfl ?_
 refine sk .a ?_
 refine q1 ?_
 refine sj ?_
 refine rk 1 (.d (.k (.i 6 (eS 2 eWantedPart a0) .n))) ?_
 obtain ⟨y1, hy1, h⟩ := bs h
 refine jc 7 [6] (agrafferef08_CheckWanted_ok n a0 y1 hy1) ?_
 refine jk 1 (.d (.k (.i 5 (vi y1) .n))) ?_
 refine sk (.k2 (.i 9 (vb (y1 != (0 : Int))) .n)) ?_
 refine tc h (fun c1 h => ?_) (fun c1 h => ?_)
 ·refine sk (.i 4 (vi y1) .n) ?_
  refine q3 ?_
  have h := si h
  subst h
  exact DoneS.ret Sees.refl rfl rfl
 refine q2 ?_
 refine sj ?_
 refine rk 1 (.i 11 (eS 2 eOfferedPart a1) .n) ?_
 obtain ⟨y2, hy2, h⟩ := bs h
 refine jc 12 [11] (agrafferef08_CheckOffered_ok n a1 y2 hy2) ?_
 refine jk 1 (.i 4 (vi y2) .n) ?_
 refine q3 ?_
 have h := si h
 subst h
 exact DoneS.ret Sees.refl rfl rfl
theorem agrafferef08_Fits_ok (n : Nat) (a0 : WantedPart) (a1 : OfferedPart) (r : Bool) (h : agrafferef08_Fits n a0 a1 = some r) : FnL Tryz.prog 61 [.agg [vt a0.Name, eS 2 eRange a0.Ranges], .agg [vt a1.Name, eS 1 vi a1.Sizes]] [] (vb r) [] := by
 dsimp only [agrafferef08_Fits] at h
 refine fo [4] Tryz.call61 Tryz.func61 rfl ?_
 refine sko (.i 2 (.ptr 0 0 0) (.i 3 (.ptr 1 0 0) .n)) [some (.row 2 [.agg [vt a0.Name, eS 2 eRange a0.Ranges]]), some (.row 2 [.agg [vt a1.Name, eS 1 vi a1.Sizes]])] ?_
 refine q1 ?_
 refine sj ?_
 refine rk 2 (.k2 (.i 7 (eS 2 eRange a0.Ranges) .n)) ?_
 refine jo 8 (.len 0 7) (ok_len_m rfl) ?_
 refine rk 2 (.d (.k2 (.i 8 (vi ((a0.Ranges.length : Nat) : Int)) (.i 10 (eS 1 vi a1.Sizes) .n)))) ?_
 refine jo 11 (.len 0 10) (ok_len_m rfl) ?_
 refine jo 12 (.bin .neq false 8 11) (n_neq (i := a0.Ranges.length) (j := a1.Sizes.length) rfl rfl) ?_
 refine jf (.d2 (.k2 (.i 12 (vb (!decide (a0.Ranges.length = a1.Sizes.length))) .n))) ?_
 refine tc h (fun c1 h => ?_) (fun c1 h => ?_)
 ·refine sk (.i 4 (vb false) .n) ?_
  refine q3 ?_
  have h := si h
  subst h
  exact DoneS.ret (S' := ⟨[(4, vb false)], []⟩) (sc [] (by decide) (by kernel_rfl) ObRen.nil rfl rfl) rfl rfl
 refine q2 ?_
 refine TriE.seqK h (fun (_ : Unit) => St.mk [] []) ?_ ?_
 ·rintro ⟨⟩ h
  refine sk (.i 4 (vb true) .n) ?_
  refine q3 ?_
  have h := si h
  subst h
  exact DoneS.ret Sees.refl rfl rfl
 intro k1 h
 refine sk (.k2 (.i 5 (vi 0) .n)) ?_
 refine q4 ?_
 refine ts (.k2 (.i 5 (vi 0) .n)) ?_
 refine TriE.loopN h (fun (v2 : Nat) => St.mk [(2, .ptr 0 0 0), (3, .ptr 1 0 0), (5, vi v2)] [some (.row 2 [.agg [vt a0.Name, eS 2 eRange a0.Ranges]]), some (.row 2 [.agg [vt a1.Name, eS 1 vi a1.Sizes]])]) rfl ?_
 clear h
 rintro back v2 h
 dsimp only [agrafferef08_Fits_L1] at h
 refine q1 ?_
 refine sj ?_
 refine rk 3 (.k3 (.i 13 (vi v2) (.i 15 (eS 1 vi a1.Sizes) .n))) ?_
 refine jo 16 (.len 0 15) (ok_len_m rfl) ?_
 refine jo 17 (.bin .lss false 13 16) (n_lss (i := v2) (j := a1.Sizes.length) rfl rfl) ?_
 refine jf (.d2 (.k3 (.i 17 (vb (decide (v2 < a1.Sizes.length))) .n))) ?_
 refine tc h (fun c2 h => ?_) (fun c2 h => ?_)
 ·refine q2 ?_
  refine q7 ?_
  refine q1 ?_
  refine ts (.k3 .n) ?_
  refine TriE.draw (by kernel_rfl) ?_
  refine dk 3 (.i 22 (vi v2) (.i 21 (eS 1 vi a1.Sizes) (.i 20 (.ptr 1 0 1) .a))) ?_
  refine dp 23 (.iaddr 1 21 22) (ok_iaddr_m (j := v2) rfl rfl rfl c2) ?_
  refine dp 24 (.load false 1 23) (ok_load_fm (v := vi (ix a1.Sizes v2)) rfl c2 rfl) ?_
  refine dk 3 (.i 27 (vi v2) (.i 26 (eS 2 eRange a0.Ranges) (.i 25 (.ptr 0 0 1) .a))) ?_
  obtain ⟨c3, h⟩ := ck h
  refine dp 28 (.iaddr 2 26 27) (ok_iaddr_m (j := v2) rfl rfl rfl c3) ?_
  refine dk 1 (.i 29 (.fptr 2 (List.map eRange a0.Ranges) v2 0) .a) ?_
  refine dp 30 (.load false 1 29) (ok_load_fm (v := vi ((ix a0.Ranges v2).Lo)) rfl c3 rfl) ?_
  refine dk 3 (.i 33 (vi v2) (.i 32 (eS 2 eRange a0.Ranges) (.i 31 (.ptr 0 0 1) .a))) ?_
  refine dp 34 (.iaddr 2 32 33) (ok_iaddr_m (j := v2) rfl rfl rfl c3) ?_
  refine dk 1 (.i 35 (.fptr 2 (List.map eRange a0.Ranges) v2 1) .a) ?_
  refine dp 36 (.load false 1 35) (ok_load_fm (v := vi ((ix a0.Ranges v2).Hi)) rfl c3 rfl) ?_
  obtain ⟨y3, hy3, h⟩ := bs h
  refine dc (vb ((decide (((ix a0.Ranges v2).Lo) ≤ (ix a1.Sizes v2))) && (decide ((ix a1.Sizes v2) ≤ ((ix a0.Ranges v2).Hi))))) 0 37 [24, 30, 36] (agraffebase_Within_ok n (ix a1.Sizes v2) ((ix a0.Ranges v2).Lo) ((ix a0.Ranges v2).Hi) y3 hy3) [] rfl ObsRen.nil ObsRen.nil rfl (.inr ⟨rfl, rfl⟩) ?_
  refine dk 1 (.i 38 (vb (!((decide (((ix a0.Ranges v2).Lo) ≤ (ix a1.Sizes v2))) && (decide ((ix a1.Sizes v2) ≤ ((ix a0.Ranges v2).Hi)))))) .a) ?_
  refine dfi (ob' := [some (.row 2 [.agg [vt a0.Name, eS 2 eRange a0.Ranges]]), some (.row 2 [.agg [vt a1.Name, eS 1 vi a1.Sizes]])]) (.d4 (.d4 (.d4 (.d4 (.d3 (.k3 (.i 38 (vb (!((decide (((ix a0.Ranges v2).Lo) ≤ (ix a1.Sizes v2))) && (decide ((ix a1.Sizes v2) ≤ ((ix a0.Ranges v2).Hi)))))) .n))))))) [0, 1] (.cons rfl (.cons rfl .nil)) ?_
  refine tc h (fun c4 h => ?_) (fun c4 h => ?_)
  ·refine sk (.i 4 (vb false) .n) ?_
   refine q3 ?_
   have h := si h
   subst h
   exact DoneS.ret (S' := ⟨[(4, vb false)], []⟩) (sc [] (by decide) (by kernel_rfl) ObRen.nil rfl rfl) rfl rfl
  refine q2 ?_
  refine q6 ?_
  refine rk 1 (.k2 (.i 18 (vi v2) .n)) ?_
  obtain ⟨c5, h⟩ := ck h
  refine jo 19 (.bin .add false 18 (ki 1)) (r_addn (i := v2) (j := 1) rfl rfl c5) ?_
  refine jk 1 (.d (.k2 (.i 5 (vi ((v2 + 1 : Nat) : Int)) .n))) ?_
  exact Vs.intro sy ⟨(v2 + 1), rfl, h⟩
 refine q5 ?_
 exact Vs.intro (sc [] (by decide) (by kernel_rfl) ObRen.nil rfl rfl) ⟨(), rfl, h⟩
theorem agraffebase_Has_ok (n : Nat) (a0 : List Int) (a1 : Int) (r : Bool) (h : agraffebase_Has n a0 a1 = some r) : FnL Tryz.prog 122 [eS 1 vi a0, vi a1] [] (vb r) [] := by
 dsimp only [agraffebase_Has] at h
 refine fo [4] Tryz.call122 Tryz.func122 rfl ?_
 refine sk .a ?_
 refine TriE.seqK h (fun (_ : Unit) => St.mk [] []) ?_ ?_
 ·rintro ⟨⟩ h
  refine sk (.i 4 (vb false) .n) ?_
  refine q3 ?_
  have h := si h
  subst h
  exact DoneS.ret Sees.refl rfl rfl
 intro k1 h
 refine sk (.k2 (.i 5 (vi 0) .n)) ?_
 refine q4 ?_
 refine ts (.k2 (.i 5 (vi 0) .n)) ?_
 refine TriE.loopN h (fun (v1 : Nat) => St.mk [(0, eS 1 vi a0), (1, vi a1), (5, vi v1)] []) rfl ?_
 clear h
 rintro back v1 h
 dsimp only [agraffebase_Has_L1] at h
 refine q1 ?_
 refine sj ?_
 refine rk 2 (.k3 (.i 6 (vi v1) (.i 7 (eS 1 vi a0) .n))) ?_
 refine jo 8 (.len 0 7) (ok_len_m rfl) ?_
 refine jo 9 (.bin .lss false 6 8) (n_lss (i := v1) (j := a0.length) rfl rfl) ?_
 refine jf (.d2 (.k3 (.i 9 (vb (decide (v1 < a0.length))) .n))) ?_
 refine tc h (fun c1 h => ?_) (fun c1 h => ?_)
 ·refine q2 ?_
  refine q7 ?_
  refine sj ?_
  refine rk 2 (.k3 (.i 12 (eS 1 vi a0) (.i 13 (vi v1) .n))) ?_
  refine jo 14 (.iaddr 1 12 13) (ok_iaddr_m (j := v1) rfl rfl rfl c1) ?_
  refine jo 15 (.load false 1 14) (ok_load_fm (v := vi (ix a0 v1)) rfl c1 rfl) ?_
  refine jk 2 (.d2 (.k3 (.i 17 (vb ((ix a0 v1) == a1)) .n))) ?_
  refine tc h (fun c2 h => ?_) (fun c2 h => ?_)
  ·refine sk (.i 4 (vb true) .n) ?_
   refine q3 ?_
   have h := si h
   subst h
   exact DoneS.ret Sees.refl rfl rfl
  refine q2 ?_
  refine q6 ?_
  refine rk 1 (.k2 (.i 10 (vi v1) .n)) ?_
  obtain ⟨c3, h⟩ := ck h
  refine jo 11 (.bin .add false 10 (ki 1)) (r_addn (i := v1) (j := 1) rfl rfl c3) ?_
  refine jk 1 (.d (.k2 (.i 5 (vi ((v1 + 1 : Nat) : Int)) .n))) ?_
  exact Vs.intro sy ⟨(v1 + 1), rfl, h⟩
 refine q5 ?_
 exact Vs.intro sy ⟨(), rfl, h⟩
set_option maxHeartbeats 1000000 in
theorem agrafferef08_CheckMatch_ok (n : Nat) (a0 : List WantedPart) (a1 : List OfferedPart) (a2 : List Int) (r : Int × Int) (h : agrafferef08_CheckMatch n a0 a1 a2 = some r) : FnL Tryz.prog 56 [eS 2 eWantedPart a0, eS 2 eOfferedPart a1, eS 1 vi a2] [] (.tup [vi r.2, vi r.1]) [] := by
 dsimp only [agrafferef08_CheckMatch] at h
 refine fo [6, 7] Tryz.call56 Tryz.func56 rfl ?_
 refine sk .a ?_
 refine q1 ?_
 refine sj ?_
 refine rk 1 (.k3 (.i 10 (eS 1 vi a2) .n)) ?_
 refine jo 11 (.len 0 10) (ok_len_m rfl) ?_
 refine rk 1 (.d (.k3 (.i 11 (vi (a2.length : Int)) (.i 12 (eS 2 eWantedPart a0) .n)))) ?_
 refine jo 13 (.len 0 12) (ok_len_m rfl) ?_
 refine jo 14 (.bin .neq false 11 13) (n_neq (i := a2.length) (j := a0.length) rfl rfl) ?_
 refine jf (.d2 (.k3 (.i 14 (vb (!decide (a2.length = a0.length))) .n))) ?_
 refine tc h (fun c1 h => ?_) (fun c1 h => ?_)
 ·refine sk (.i 6 (vi 0) (.i 7 (vi 10) .n)) ?_
  refine q3 ?_
  have h := si h
  subst h
  exact DoneS.ret Sees.refl rfl rfl
 refine q2 ?_
 refine sk (.k3 (.i 8 (vi 0) .n)) ?_
 refine TriE.seqK h (fun (v11 : Nat) => St.mk [(8, vi v11)] []) ?_ ?_
 ·rintro v11 h
  refine sk (.i 6 (vi v11) (.i 7 (vi 0) .n)) ?_
  refine q3 ?_
  have h := si h
  subst h
  exact DoneS.ret Sees.refl rfl rfl
 intro k2 h
 refine sk (.k4 (.i 9 (vi 0) .n)) ?_
 refine q4 ?_
 refine ts (.k3 (.i 8 (vi 0) (.i 9 (vi 0) .n))) ?_
 refine TriE.loopN h (fun (t : Nat × Nat) => match t with | (v5, v6) => St.mk [(0, eS 2 eWantedPart a0), (1, eS 2 eOfferedPart a1), (2, eS 1 vi a2), (8, vi v5), (9, vi v6)] []) rfl ?_
 clear h
 rintro back ⟨v5, v6⟩ h
 dsimp only [agrafferef08_CheckMatch_L1] at h
 refine q1 ?_
 refine sj ?_
 refine rk 2 (.k4 (.k (.i 15 (vi v6) (.i 16 (eS 1 vi a2) .n)))) ?_
 refine jo 17 (.len 0 16) (ok_len_m rfl) ?_
 refine jo 18 (.bin .lss false 15 17) (n_lss (i := v6) (j := a2.length) rfl rfl) ?_
 refine jf (.d2 (.k4 (.k (.i 18 (vb (decide (v6 < a2.length))) .n)))) ?_
 refine tc h (fun c2 h => ?_) (fun c2 h => ?_)
 ·refine q2 ?_
  refine TriE.seqK h (fun (v10 : Nat) => St.mk [(0, eS 2 eWantedPart a0), (1, eS 2 eOfferedPart a1), (2, eS 1 vi a2), (8, vi v10), (9, vi v6)] []) ?_ ?_
  ·rintro v10 h
   refine q6 ?_
   refine rk 1 (.k4 (.i 19 (vi v6) .n)) ?_
   obtain ⟨c13, h⟩ := ck h
   refine jo 20 (.bin .add false 19 (ki 1)) (r_addn (i := v6) (j := 1) rfl rfl c13) ?_
   refine jk 1 (.d (.k4 (.i 9 (vi ((v6 + 1 : Nat) : Int)) .n))) ?_
   exact Vs.intro sy ⟨(v10, v6 + 1), rfl, h⟩
  intro k1 h
  refine q4 ?_
  refine q1 ?_
  refine sj ?_
  refine rk 2 (.k4 (.k (.i 21 (eS 1 vi a2) (.i 22 (vi v6) .n)))) ?_
  refine jo 23 (.iaddr 1 21 22) (ok_iaddr_m (j := v6) rfl rfl rfl c2) ?_
  refine jo 24 (.load false 1 23) (ok_load_fm (v := vi (ix a2 v6)) rfl c2 rfl) ?_
  refine jk 1 (.d2 (.k4 (.k (.i 25 (vb ((ix a2 v6) == ((-1) : Int))) .n)))) ?_
  refine tc h (fun c3 h => ?_) (fun c3 h => ?_)
  ·refine q5 ?_
   exact Vs.intro sy ⟨v5, rfl, h⟩
  refine q2 ?_
  refine q1 ?_
  refine sj ?_
  refine rk 2 (.k4 (.k (.i 26 (eS 1 vi a2) (.i 27 (vi v6) .n)))) ?_
  refine jo 28 (.iaddr 1 26 27) (ok_iaddr_m (j := v6) rfl rfl rfl c2) ?_
  refine jo 29 (.load false 1 28) (ok_load_fm (v := vi (ix a2 v6)) rfl c2 rfl) ?_
  refine rk 1 (.d2 (.k4 (.k (.i 29 (vi (ix a2 v6)) (.i 30 (eS 2 eOfferedPart a1) .n))))) ?_
  refine jo 31 (.len 0 30) (ok_len_m rfl) ?_
  obtain ⟨c4, h⟩ := ck h
  refine jo 32 (.bin .sub false 31 (ki 1)) (r_sub rfl rfl c4) ?_
  obtain ⟨y7, hy7, h⟩ := bs h
  refine jc 33 [29, (ki 0), 32] (agraffebase_Within_ok n (ix a2 v6) 0 ((a1.length : Int) - 1) y7 hy7) ?_
  refine jk 1 (.d3 (.k4 (.k (.i 34 (vb (!((decide (0 ≤ (ix a2 v6))) && (decide ((ix a2 v6) ≤ ((a1.length : Int) - 1)))))) .n)))) ?_
  refine tc h (fun c5 h => ?_) (fun c5 h => ?_)
  ·refine sk (.i 6 (vi 0) (.i 7 (vi 6) .n)) ?_
   refine q3 ?_
   have h := si h
   subst h
   exact DoneS.ret Sees.refl rfl rfl
  refine q2 ?_
  refine q1 ?_
  refine q1 ?_
  refine ts (.k4 (.k .n)) ?_
  refine TriE.draw (by kernel_rfl) ?_
  refine dk 2 (.i 36 (vi v6) (.i 35 (eS 2 eWantedPart a0) .a)) ?_
  obtain ⟨c6, h⟩ := ck h
  refine dp 37 (.iaddr 2 35 36) (ok_iaddr_m (j := v6) rfl rfl rfl c6) ?_
  refine dp 38 (.load true 2 37) (ok_load_fm (v := .agg [vt ((ix a0 v6).Name), eS 2 eRange ((ix a0 v6).Ranges)]) rfl c6 rfl) ?_
  refine dk 3 (.i 41 (vi v6) (.i 40 (eS 1 vi a2) (.i 39 (eS 2 eOfferedPart a1) .a))) ?_
  refine dp 42 (.iaddr 1 40 41) (ok_iaddr_m (j := v6) rfl rfl rfl c2) ?_
  refine dp 43 (.load false 1 42) (ok_load_fm (v := vi (ix a2 v6)) rfl c2 rfl) ?_
  obtain ⟨c7, h⟩ := ck h
  refine dp 44 (.iaddr 2 39 43) (ok_iaddr_m (j := (ix a2 v6).toNat) rfl rfl (inB_to c7) (inB_lt c7)) ?_
  obtain ⟨c8, h⟩ := ck h
  refine dp 45 (.load true 2 44) (ok_load_fm (v := .agg [vt ((ix a1 ((ix a2 v6).toNat)).Name), eS 1 vi ((ix a1 ((ix a2 v6).toNat)).Sizes)]) rfl c8 rfl) ?_
  obtain ⟨y8, hy8, h⟩ := bs h
  refine dc (vb y8) 0 46 [38, 45] (agrafferef08_Fits_ok n (ix a0 v6) (ix a1 ((ix a2 v6).toNat)) y8 hy8) [] rfl ObsRen.nil ObsRen.nil rfl (.inr ⟨rfl, rfl⟩) ?_
  refine dk 1 (.i 47 (vb (!y8)) .a) ?_
  refine dfi (.d4 (.d4 (.d4 (.d (.k4 (.k (.i 47 (vb (!y8)) .n))))))) [] ObRen.nil ?_
  refine tc h (fun c9 h => ?_) (fun c9 h => ?_)
  ·refine sk (.i 6 (vi 0) (.i 7 (vi 15) .n)) ?_
   refine q3 ?_
   have h := si h
   subst h
   exact DoneS.ret Sees.refl rfl rfl
  refine q2 ?_
  refine q1 ?_
  refine q1 ?_
  refine ts (.k4 (.k .n)) ?_
  refine TriE.draw (by kernel_rfl) ?_
  refine dk 2 (.i 49 (vi v6) (.i 48 (eS 1 vi a2) .a)) ?_
  obtain ⟨c10, h⟩ := ck h
  refine dp 50 (.slc 1 48 none (some 49) none) (ok_slc_hi (j := v6) rfl rfl rfl c10) ?_
  refine dk 2 (.i 52 (vi v6) (.i 51 (eS 1 vi a2) .a)) ?_
  refine dp 53 (.iaddr 1 51 52) (ok_iaddr_m (j := v6) rfl rfl rfl c2) ?_
  refine dp 54 (.load false 1 53) (ok_load_fm (v := vi (ix a2 v6)) rfl c2 rfl) ?_
  obtain ⟨y9, hy9, h⟩ := bs h
  refine dc (vb y9) 0 55 [50, 54] (agraffebase_Has_ok n (List.take v6 a2) (ix a2 v6) y9 hy9) [] rfl ObsRen.nil ObsRen.nil rfl (.inr ⟨rfl, rfl⟩) ?_
  refine dfi (.d4 (.d4 (.k4 (.k (.i 55 (vb y9) .n))))) [] ObRen.nil ?_
  refine tc h (fun c11 h => ?_) (fun c11 h => ?_)
  ·refine sk (.i 6 (vi 0) (.i 7 (vi 17) .n)) ?_
   refine q3 ?_
   have h := si h
   subst h
   exact DoneS.ret Sees.refl rfl rfl
  refine q2 ?_
  refine q6 ?_
  refine rk 1 (.k3 (.d (.k (.i 56 (vi v5) .n)))) ?_
  obtain ⟨c12, h⟩ := ck h
  refine jo 57 (.bin .add false 56 (ki 1)) (r_addn (i := v5) (j := 1) rfl rfl c12) ?_
  refine jk 1 (.d (.k4 (.i 8 (vi ((v5 + 1 : Nat) : Int)) .n))) ?_
  exact Vs.intro sy ⟨(v5 + 1), rfl, h⟩
 refine q5 ?_
 exact Vs.intro sy ⟨v5, rfl, h⟩
set_option maxHeartbeats 1000000 in
theorem agrafferef08_CheckCover_ok (n : Nat) (a0 : List WantedPart) (a1 : List OfferedPart) (a2 : Arr2_ListInt) (r : Int × Int) (h : agrafferef08_CheckCover n a0 a1 a2 = some r) : FnL Tryz.prog 57 [eS 2 eWantedPart a0, eS 2 eOfferedPart a1, .agg [eS 1 vi a2.a0, eS 1 vi a2.a1]] [] (.tup [vi r.2, vi r.1]) [] := by
  dsimp only [agrafferef08_CheckCover] at h
  refine FnL.ofS (ts := [6, 7]) Tryz.call57 Tryz.func57 rfl rfl (Nat.le_of_ble_eq_true rfl) (Nat.le_of_ble_eq_true rfl) (fun j h => absurd h (Nat.not_lt_zero j)) ?_
  show TriE _ _ _ _ _ (St.mk [(0, eS 2 eWantedPart a0), (1, eS 2 eOfferedPart a1), (2, .agg [eS 1 vi a2.a0, eS 1 vi a2.a1])] []) _
  refine TriE.seq ?_
  refine TriE.run [(0, eS 2 eWantedPart a0), (1, eS 2 eOfferedPart a1), (5, .ptr 0 0 0)] [some (.row 2 [.agg [eS 1 vi a2.a0, eS 1 vi a2.a1]])] (by kernel_rfl) ?_
  refine TriE.seq ?_
  refine TriE.regJ ?_
  refine RegJ.run 1 [(0, eS 2 eWantedPart a0), (1, eS 2 eOfferedPart a1), (5, .ptr 0 0 0), (15, eS 2 eWantedPart a0)] [some (.row 2 [.agg [eS 1 vi a2.a0, eS 1 vi a2.a1]])] (by kernel_rfl) ?_
  refine jv (vi ((a0.length : Nat) : Int)) (cz (I0 16 (.len 0 (.t 15))) (by kernel_rfl)) (ok_len_m rfl) rfl ?_
  refine RegJ.run 1 [(0, eS 2 eWantedPart a0), (1, eS 2 eOfferedPart a1), (5, .ptr 0 0 0), (16, vi ((a0.length : Nat) : Int)), (17, eS 2 eOfferedPart a1)] [some (.row 2 [.agg [eS 1 vi a2.a0, eS 1 vi a2.a1]])] (by kernel_rfl) ?_
  refine jv (vi ((a1.length : Nat) : Int)) (cz (I0 18 (.len 0 (.t 17))) (by kernel_rfl)) (ok_len_m rfl) rfl ?_
  refine jrd 3 [(0, eS 2 eWantedPart a0), (1, eS 2 eOfferedPart a1), (5, .ptr 0 0 0), (8, .ptr 1 0 0)] [some (.row 2 [.agg [eS 1 vi a2.a0, eS 1 vi a2.a1]]), some (.row 2 [.agg [vi ((a0.length : Nat) : Int), vi ((a1.length : Nat) : Int)]])] (by kernel_rfl) rfl ?_
  refine TriE.seq ?_
  refine TriE.seq ?_
  refine TriE.run [(0, eS 2 eWantedPart a0), (1, eS 2 eOfferedPart a1), (5, .ptr 0 0 0), (8, .ptr 1 0 0), (9, vi 0)] [some (.row 2 [.agg [eS 1 vi a2.a0, eS 1 vi a2.a1]]), some (.row 2 [.agg [vi ((a0.length : Nat) : Int), vi ((a1.length : Nat) : Int)]])] (by kernel_rfl) ?_
  refine TriE.block ?_
  refine TriE.rnd 3 ?_
  refine RndE.seq ?_
  refine TriE.seq ?_
  refine TriE.seq ?_
  refine TriE.run [(0, eS 2 eWantedPart a0), (1, eS 2 eOfferedPart a1), (5, .ptr 0 0 0), (8, .ptr 1 0 0), (9, vi 0), (21, vb true)] [some (.row 2 [.agg [eS 1 vi a2.a0, eS 1 vi a2.a1]]), some (.row 2 [.agg [vi ((a0.length : Nat) : Int), vi ((a1.length : Nat) : Int)]])] (by kernel_rfl) ?_
  refine TriE.cond (b := true) rfl (fun c1 => ?_) (fun c1 => ?_)
  rotate_left
  · cases c1
  refine TriE.skip ?_
  refine TriE.seqK h (fun (_ : Unit) => St.mk [(0, eS 2 eWantedPart a0), (1, eS 2 eOfferedPart a1), (5, .ptr 0 0 0), (8, .ptr 1 0 0), (9, vi 0)] [some (.row 2 [.agg [eS 1 vi a2.a0, eS 1 vi a2.a1]]), some (.row 2 [.agg [vi ((a0.length : Nat) : Int), vi ((a1.length : Nat) : Int)]])]) ?_ ?_
  · rintro ⟨⟩ h
    show TriE _ _ _ _ _ (St.mk [(0, eS 2 eWantedPart a0), (1, eS 2 eOfferedPart a1), (5, .ptr 0 0 0), (8, .ptr 1 0 0), (9, vi 0)] [some (.row 2 [.agg [eS 1 vi a2.a0, eS 1 vi a2.a1]]), some (.row 2 [.agg [vi ((a0.length : Nat) : Int), vi ((a1.length : Nat) : Int)]])]) _
    refine TriE.regJ ?_
    refine RegJ.run 1 [(0, eS 2 eWantedPart a0), (1, eS 2 eOfferedPart a1), (5, .ptr 0 0 0), (8, .ptr 1 0 0), (22, vi 0)] [some (.row 2 [.agg [eS 1 vi a2.a0, eS 1 vi a2.a1]]), some (.row 2 [.agg [vi ((a0.length : Nat) : Int), vi ((a1.length : Nat) : Int)]])] (by kernel_rfl) ?_
    refine jv (vi 1) (cz (I0 23 (.bin .add false (.t 22) (.c (.p (.int .i64 1))))) (by kernel_rfl)) (r_addn (i := 0) (j := 1) rfl rfl rfl) rfl ?_
    refine jrd 1 [(0, eS 2 eWantedPart a0), (1, eS 2 eOfferedPart a1), (5, .ptr 0 0 0), (8, .ptr 1 0 0), (9, vi 1)] [some (.row 2 [.agg [eS 1 vi a2.a0, eS 1 vi a2.a1]]), some (.row 2 [.agg [vi ((a0.length : Nat) : Int), vi ((a1.length : Nat) : Int)]])] (by kernel_rfl) rfl ?_
    refine RndE.seq ?_
    refine TriE.seq ?_
    refine TriE.seq ?_
    refine TriE.run [(0, eS 2 eWantedPart a0), (1, eS 2 eOfferedPart a1), (5, .ptr 0 0 0), (8, .ptr 1 0 0), (9, vi 1), (21, vb true)] [some (.row 2 [.agg [eS 1 vi a2.a0, eS 1 vi a2.a1]]), some (.row 2 [.agg [vi ((a0.length : Nat) : Int), vi ((a1.length : Nat) : Int)]])] (by kernel_rfl) ?_
    refine TriE.cond (b := true) rfl (fun c8 => ?_) (fun c8 => ?_)
    rotate_left
    · cases c8
    refine TriE.skip ?_
    refine TriE.seqK h (fun (_ : Unit) => St.mk [(0, eS 2 eWantedPart a0), (1, eS 2 eOfferedPart a1), (5, .ptr 0 0 0), (8, .ptr 1 0 0), (9, vi 1)] [some (.row 2 [.agg [eS 1 vi a2.a0, eS 1 vi a2.a1]]), some (.row 2 [.agg [vi ((a0.length : Nat) : Int), vi ((a1.length : Nat) : Int)]])]) ?_ ?_
    · rintro ⟨⟩ h
      show TriE _ _ _ _ _ (St.mk [(0, eS 2 eWantedPart a0), (1, eS 2 eOfferedPart a1), (5, .ptr 0 0 0), (8, .ptr 1 0 0), (9, vi 1)] [some (.row 2 [.agg [eS 1 vi a2.a0, eS 1 vi a2.a1]]), some (.row 2 [.agg [vi ((a0.length : Nat) : Int), vi ((a1.length : Nat) : Int)]])]) _
      refine TriE.regJ ?_
      refine RegJ.run 1 [(0, eS 2 eWantedPart a0), (1, eS 2 eOfferedPart a1), (5, .ptr 0 0 0), (8, .ptr 1 0 0), (22, vi 1)] [some (.row 2 [.agg [eS 1 vi a2.a0, eS 1 vi a2.a1]]), some (.row 2 [.agg [vi ((a0.length : Nat) : Int), vi ((a1.length : Nat) : Int)]])] (by kernel_rfl) ?_
      refine jv (vi 2) (cz (I0 23 (.bin .add false (.t 22) (.c (.p (.int .i64 1))))) (by kernel_rfl)) (r_addn (i := 1) (j := 1) rfl rfl rfl) rfl ?_
      refine jrd 1 [(0, eS 2 eWantedPart a0), (1, eS 2 eOfferedPart a1), (5, .ptr 0 0 0), (8, .ptr 1 0 0), (9, vi 2)] [some (.row 2 [.agg [eS 1 vi a2.a0, eS 1 vi a2.a1]]), some (.row 2 [.agg [vi ((a0.length : Nat) : Int), vi ((a1.length : Nat) : Int)]])] (by kernel_rfl) rfl ?_
      refine RndE.seq ?_
      refine TriE.seq ?_
      refine TriE.seq ?_
      refine TriE.run [(0, eS 2 eWantedPart a0), (1, eS 2 eOfferedPart a1), (5, .ptr 0 0 0), (8, .ptr 1 0 0), (9, vi 2), (21, vb false)] [some (.row 2 [.agg [eS 1 vi a2.a0, eS 1 vi a2.a1]]), some (.row 2 [.agg [vi ((a0.length : Nat) : Int), vi ((a1.length : Nat) : Int)]])] (by kernel_rfl) ?_
      refine TriE.cond (b := false) rfl (fun c15 => ?_) (fun c15 => ?_)
      · cases c15
      refine TriE.exit ?_
      refine TriE.seq ?_
      refine TriE.seq ?_
      refine TriE.run [(0, eS 2 eWantedPart a0), (1, eS 2 eOfferedPart a1), (5, .ptr 0 0 0), (11, vi 0)] [some (.row 2 [.agg [eS 1 vi a2.a0, eS 1 vi a2.a1]]), some (.row 2 [.agg [vi ((a0.length : Nat) : Int), vi ((a1.length : Nat) : Int)]])] (by kernel_rfl) ?_
      refine TriE.block ?_
      refine TriE.rnd 3 ?_
      refine RndE.seq ?_
      refine TriE.seq ?_
      refine TriE.seq ?_
      refine TriE.run [(0, eS 2 eWantedPart a0), (1, eS 2 eOfferedPart a1), (5, .ptr 0 0 0), (11, vi 0), (45, vb true)] [some (.row 2 [.agg [eS 1 vi a2.a0, eS 1 vi a2.a1]]), some (.row 2 [.agg [vi ((a0.length : Nat) : Int), vi ((a1.length : Nat) : Int)]])] (by kernel_rfl) ?_
      refine TriE.cond (b := true) rfl (fun c16 => ?_) (fun c16 => ?_)
      rotate_left
      · cases c16
      refine TriE.skip ?_
      refine TriE.seqK h (fun (_ : Unit) => St.mk [(0, eS 2 eWantedPart a0), (1, eS 2 eOfferedPart a1), (5, .ptr 0 0 0), (11, vi 0)] [some (.row 2 [.agg [eS 1 vi a2.a0, eS 1 vi a2.a1]])]) ?_ ?_
      · rintro ⟨⟩ h
        show TriE _ _ _ _ _ (St.mk [(0, eS 2 eWantedPart a0), (1, eS 2 eOfferedPart a1), (5, .ptr 0 0 0), (11, vi 0)] [some (.row 2 [.agg [eS 1 vi a2.a0, eS 1 vi a2.a1]])]) _
        refine TriE.regJ ?_
        refine RegJ.run 1 [(0, eS 2 eWantedPart a0), (1, eS 2 eOfferedPart a1), (5, .ptr 0 0 0), (46, vi 0)] [some (.row 2 [.agg [eS 1 vi a2.a0, eS 1 vi a2.a1]])] (by kernel_rfl) ?_
        refine jv (vi 1) (cz (I0 47 (.bin .add false (.t 46) (.c (.p (.int .i64 1))))) (by kernel_rfl)) (r_addn (i := 0) (j := 1) rfl rfl rfl) rfl ?_
        refine jrd 1 [(0, eS 2 eWantedPart a0), (1, eS 2 eOfferedPart a1), (5, .ptr 0 0 0), (11, vi 1)] [some (.row 2 [.agg [eS 1 vi a2.a0, eS 1 vi a2.a1]])] (by kernel_rfl) rfl ?_
        refine RndE.seq ?_
        refine TriE.seq ?_
        refine TriE.seq ?_
        refine TriE.run [(0, eS 2 eWantedPart a0), (1, eS 2 eOfferedPart a1), (5, .ptr 0 0 0), (11, vi 1), (45, vb true)] [some (.row 2 [.agg [eS 1 vi a2.a0, eS 1 vi a2.a1]])] (by kernel_rfl) ?_
        refine TriE.cond (b := true) rfl (fun c25 => ?_) (fun c25 => ?_)
        rotate_left
        · cases c25
        refine TriE.skip ?_
        refine TriE.seqK h (fun (_ : Unit) => St.mk [(0, eS 2 eWantedPart a0), (1, eS 2 eOfferedPart a1), (5, .ptr 0 0 0), (11, vi 1)] [some (.row 2 [.agg [eS 1 vi a2.a0, eS 1 vi a2.a1]])]) ?_ ?_
        · rintro ⟨⟩ h
          show TriE _ _ _ _ _ (St.mk [(0, eS 2 eWantedPart a0), (1, eS 2 eOfferedPart a1), (5, .ptr 0 0 0), (11, vi 1)] [some (.row 2 [.agg [eS 1 vi a2.a0, eS 1 vi a2.a1]])]) _
          refine TriE.regJ ?_
          refine RegJ.run 1 [(0, eS 2 eWantedPart a0), (1, eS 2 eOfferedPart a1), (5, .ptr 0 0 0), (46, vi 1)] [some (.row 2 [.agg [eS 1 vi a2.a0, eS 1 vi a2.a1]])] (by kernel_rfl) ?_
          refine jv (vi 2) (cz (I0 47 (.bin .add false (.t 46) (.c (.p (.int .i64 1))))) (by kernel_rfl)) (r_addn (i := 1) (j := 1) rfl rfl rfl) rfl ?_
          refine jrd 1 [(0, eS 2 eWantedPart a0), (1, eS 2 eOfferedPart a1), (5, .ptr 0 0 0), (11, vi 2)] [some (.row 2 [.agg [eS 1 vi a2.a0, eS 1 vi a2.a1]])] (by kernel_rfl) rfl ?_
          refine RndE.seq ?_
          refine TriE.seq ?_
          refine TriE.seq ?_
          refine TriE.run [(0, eS 2 eWantedPart a0), (1, eS 2 eOfferedPart a1), (5, .ptr 0 0 0), (11, vi 2), (45, vb false)] [some (.row 2 [.agg [eS 1 vi a2.a0, eS 1 vi a2.a1]])] (by kernel_rfl) ?_
          refine TriE.cond (b := false) rfl (fun c34 => ?_) (fun c34 => ?_)
          · cases c34
          refine TriE.exit ?_
          refine TriE.seqK h (fun (_ : Unit) => St.mk [(5, .ptr 0 0 0)] [some (.row 2 [.agg [eS 1 vi a2.a0, eS 1 vi a2.a1]])]) ?_ ?_
          · rintro ⟨⟩ h
            show TriE _ _ _ _ _ (St.mk [(5, .ptr 0 0 0)] [some (.row 2 [.agg [eS 1 vi a2.a0, eS 1 vi a2.a1]])]) _
            refine TriE.seq ?_
            refine TriE.regJ ?_
            refine RegJ.run 2 [(5, .ptr 0 0 0), (106, eS 1 vi a2.a0)] [some (.row 2 [.agg [eS 1 vi a2.a0, eS 1 vi a2.a1]])] (by kernel_rfl) ?_
            refine jv (vi ((a2.a0.length : Nat) : Int)) (cz (I0 107 (.len 0 (.t 106))) (by kernel_rfl)) (ok_len_m rfl) rfl ?_
            refine RegJ.run 2 [(107, vi ((a2.a0.length : Nat) : Int)), (109, eS 1 vi a2.a1)] [some (.row 2 [.agg [eS 1 vi a2.a0, eS 1 vi a2.a1]])] (by kernel_rfl) ?_
            refine jv (vi ((a2.a1.length : Nat) : Int)) (cz (I0 110 (.len 0 (.t 109))) (by kernel_rfl)) (ok_len_m rfl) rfl ?_
            obtain ⟨c44, h⟩ := chk_some h
            refine jv (vi ((a2.a0.length + a2.a1.length : Nat) : Int)) (cz (I0 111 (.bin .add false (.t 107) (.t 110))) (by kernel_rfl)) (r_addn (i := a2.a0.length) (j := a2.a1.length) rfl rfl c44) rfl ?_
            refine jrd 2 [(6, vi ((a2.a0.length + a2.a1.length : Nat) : Int)), (7, vi 0)] [some (.row 2 [.agg [eS 1 vi a2.a0, eS 1 vi a2.a1]])] (by kernel_rfl) rfl ?_
            refine TriE.ret ?_
            have h := Option.some.inj h
            subst h
            exact DoneS.ret (S' := ⟨[(6, vi ((a2.a0.length + a2.a1.length : Nat) : Int)), (7, vi 0)], []⟩) (sc [] (by decide) (by kernel_rfl) ObRen.nil rfl rfl) rfl rfl
          intro k6 h
          refine TriE.seq ?_
          refine TriE.run [(0, eS 2 eWantedPart a0), (1, eS 2 eOfferedPart a1), (5, .ptr 0 0 0), (13, vi 0)] [some (.row 2 [.agg [eS 1 vi a2.a0, eS 1 vi a2.a1]])] (by kernel_rfl) ?_
          refine TriE.block ?_
          refine TriE.loopN h (fun (v16 : Int) => St.mk [(0, eS 2 eWantedPart a0), (1, eS 2 eOfferedPart a1), (5, .ptr 0 0 0), (13, vi v16)] [some (.row 2 [.agg [eS 1 vi a2.a0, eS 1 vi a2.a1]])]) rfl ?_
          clear h
          rintro back v16 h
          dsimp only [agrafferef08_CheckCover_L6] at h
          show TriE _ _ _ _ _ (St.mk [(0, eS 2 eWantedPart a0), (1, eS 2 eOfferedPart a1), (5, .ptr 0 0 0), (13, vi v16)] [some (.row 2 [.agg [eS 1 vi a2.a0, eS 1 vi a2.a1]])]) _
          refine TriE.seq ?_
          refine TriE.seq ?_
          refine TriE.regJ ?_
          refine RegJ.run 2 [(0, eS 2 eWantedPart a0), (1, eS 2 eOfferedPart a1), (5, .ptr 0 0 0), (13, vi v16), (70, vi v16), (71, eS 2 eWantedPart a0)] [some (.row 2 [.agg [eS 1 vi a2.a0, eS 1 vi a2.a1]])] (by kernel_rfl) ?_
          refine jv (vi ((a0.length : Nat) : Int)) (cz (I0 72 (.len 0 (.t 71))) (by kernel_rfl)) (ok_len_m rfl) rfl ?_
          refine jrd 1 [(0, eS 2 eWantedPart a0), (1, eS 2 eOfferedPart a1), (5, .ptr 0 0 0), (13, vi v16), (73, vb (decide (v16 < ((a0.length : Nat) : Int))))] [some (.row 2 [.agg [eS 1 vi a2.a0, eS 1 vi a2.a1]])] (by kernel_rfl) rfl ?_
          refine TriE.cond (b := decide (v16 < ((a0.length : Nat) : Int))) rfl (fun c35 => ?_) (fun c35 => ?_)
          · have h := cond_t h c35
            refine TriE.skip ?_
            refine TriE.seqK h (fun (_ : Unit) => St.mk [(0, eS 2 eWantedPart a0), (1, eS 2 eOfferedPart a1), (5, .ptr 0 0 0), (13, vi v16)] [some (.row 2 [.agg [eS 1 vi a2.a0, eS 1 vi a2.a1]])]) ?_ ?_
            · rintro ⟨⟩ h
              show TriE _ _ _ _ _ (St.mk [(0, eS 2 eWantedPart a0), (1, eS 2 eOfferedPart a1), (5, .ptr 0 0 0), (13, vi v16)] [some (.row 2 [.agg [eS 1 vi a2.a0, eS 1 vi a2.a1]])]) _
              refine TriE.regJ ?_
              refine RegJ.run 1 [(0, eS 2 eWantedPart a0), (1, eS 2 eOfferedPart a1), (5, .ptr 0 0 0), (74, vi v16)] [some (.row 2 [.agg [eS 1 vi a2.a0, eS 1 vi a2.a1]])] (by kernel_rfl) ?_
              obtain ⟨c43, h⟩ := chk_some h
              refine jv (vi (v16 + 1)) (cz (I0 75 (.bin .add false (.t 74) (.c (.p (.int .i64 1))))) (by kernel_rfl)) (r_add rfl rfl c43) rfl ?_
              refine jrd 1 [(0, eS 2 eWantedPart a0), (1, eS 2 eOfferedPart a1), (5, .ptr 0 0 0), (13, vi (v16 + 1))] [some (.row 2 [.agg [eS 1 vi a2.a0, eS 1 vi a2.a1]])] (by kernel_rfl) rfl ?_
              exact Vs.intro Sees.refl ⟨(v16 + 1), rfl, h⟩
            intro k5 h
            refine TriE.block ?_
            refine TriE.seq ?_
            refine TriE.run [(0, eS 2 eWantedPart a0), (1, eS 2 eOfferedPart a1), (5, .ptr 0 0 0), (13, vi v16), (14, vi 0)] [some (.row 2 [.agg [eS 1 vi a2.a0, eS 1 vi a2.a1]])] (by kernel_rfl) ?_
            refine TriE.block ?_
            refine TriE.loopN h (fun (v20 : Int) => St.mk [(0, eS 2 eWantedPart a0), (1, eS 2 eOfferedPart a1), (5, .ptr 0 0 0), (13, vi v16), (14, vi v20)] [some (.row 2 [.agg [eS 1 vi a2.a0, eS 1 vi a2.a1]])]) rfl ?_
            clear h
            rintro back v20 h
            dsimp only [agrafferef08_CheckCover_L5] at h
            show TriE _ _ _ _ _ (St.mk [(0, eS 2 eWantedPart a0), (1, eS 2 eOfferedPart a1), (5, .ptr 0 0 0), (13, vi v16), (14, vi v20)] [some (.row 2 [.agg [eS 1 vi a2.a0, eS 1 vi a2.a1]])]) _
            refine TriE.seq ?_
            refine TriE.seq ?_
            refine TriE.regJ ?_
            refine RegJ.run 2 [(0, eS 2 eWantedPart a0), (1, eS 2 eOfferedPart a1), (5, .ptr 0 0 0), (13, vi v16), (14, vi v20), (76, vi v20), (77, eS 2 eOfferedPart a1)] [some (.row 2 [.agg [eS 1 vi a2.a0, eS 1 vi a2.a1]])] (by kernel_rfl) ?_
            refine jv (vi ((a1.length : Nat) : Int)) (cz (I0 78 (.len 0 (.t 77))) (by kernel_rfl)) (ok_len_m rfl) rfl ?_
            refine jrd 1 [(0, eS 2 eWantedPart a0), (1, eS 2 eOfferedPart a1), (5, .ptr 0 0 0), (13, vi v16), (14, vi v20), (79, vb (decide (v20 < ((a1.length : Nat) : Int))))] [some (.row 2 [.agg [eS 1 vi a2.a0, eS 1 vi a2.a1]])] (by kernel_rfl) rfl ?_
            refine TriE.cond (b := decide (v20 < ((a1.length : Nat) : Int))) rfl (fun c36 => ?_) (fun c36 => ?_)
            · have h := cond_t h c36
              refine TriE.skip ?_
              refine TriE.seq ?_
              refine TriE.block ?_
              refine TriE.seq ?_
              refine TriE.sees (Sees.less (fr' := [(0, eS 2 eWantedPart a0), (1, eS 2 eOfferedPart a1), (5, .ptr 0 0 0), (13, vi v16), (14, vi v20)]) (.cons rfl (.cons rfl (.cons rfl (.cons rfl (.cons rfl .nil)))))) ?_
              refine TriE.draw (by kernel_rfl) ?_
              refine RegD.run 2 [(83, vi v16), (82, eS 2 eWantedPart a0), (0, eS 2 eWantedPart a0), (1, eS 2 eOfferedPart a1), (5, .ptr 0 0 0), (13, vi v16), (14, vi v20)] [some (.row 2 [.agg [eS 1 vi a2.a0, eS 1 vi a2.a1]]), none, none] (by kernel_rfl) ?_
              obtain ⟨c37, h⟩ := chk_some h
              refine dv (.fptr 2 (List.map eWantedPart a0) v16.toNat 0) (cz (I0 84 (.iaddr 2 (.t 82) (.t 83))) (by kernel_rfl)) (ok_iaddr_m (j := v16.toNat) rfl rfl (inB_to c37) (inB_lt c37)) rfl ?_
              obtain ⟨c38, h⟩ := chk_some h
              refine dv (.agg [vt ((ix a0 v16.toNat).Name), eS 2 eRange ((ix a0 v16.toNat).Ranges)]) (cz (I0 85 (.load true 2 (.t 84))) (by kernel_rfl)) (ok_load_fm (v := .agg [vt ((ix a0 v16.toNat).Name), eS 2 eRange ((ix a0 v16.toNat).Ranges)]) rfl c38 rfl) rfl ?_
              refine RegD.run 2 [(87, vi v20), (86, eS 2 eOfferedPart a1), (85, .agg [vt ((ix a0 v16.toNat).Name), eS 2 eRange ((ix a0 v16.toNat).Ranges)]), (84, .fptr 2 (List.map eWantedPart a0) v16.toNat 0), (83, vi v16), (82, eS 2 eWantedPart a0), (0, eS 2 eWantedPart a0), (1, eS 2 eOfferedPart a1), (5, .ptr 0 0 0), (13, vi v16), (14, vi v20)] [some (.row 2 [.agg [eS 1 vi a2.a0, eS 1 vi a2.a1]]), none, none, none, none, none, none] (by kernel_rfl) ?_
              obtain ⟨c39, h⟩ := chk_some h
              refine dv (.fptr 2 (List.map eOfferedPart a1) v20.toNat 0) (cz (I0 88 (.iaddr 2 (.t 86) (.t 87))) (by kernel_rfl)) (ok_iaddr_m (j := v20.toNat) rfl rfl (inB_to c39) (inB_lt c39)) rfl ?_
              obtain ⟨c40, h⟩ := chk_some h
              refine dv (.agg [vt ((ix a1 v20.toNat).Name), eS 1 vi ((ix a1 v20.toNat).Sizes)]) (cz (I0 89 (.load true 2 (.t 88))) (by kernel_rfl)) (ok_load_fm (v := .agg [vt ((ix a1 v20.toNat).Name), eS 1 vi ((ix a1 v20.toNat).Sizes)]) rfl c40 rfl) rfl ?_
              obtain ⟨y21, hy21, h⟩ := bind_some h
              refine RegD.op (OpD.call (y' := vb y21) (obx := []) (oby := []) (ob2 := [some (.row 2 [.agg [eS 1 vi a2.a0, eS 1 vi a2.a1]]), none, none, none, none, none, none, none, none, none]) (tch := []) 0 _ _ (cz (I0 90 (.call 61 [(.t 85), (.t 89)])) (by kernel_rfl)) (agrafferef08_Fits_ok n (ix a0 v16.toNat) (ix a1 v20.toNat) y21 hy21) [] (by kernel_rfl) (.cons rfl (.cons rfl (.cons rfl .nil))) (by kernel_rfl) (by kernel_rfl) ObsRen.nil (by kernel_rfl) ObsRen.nil (by kernel_rfl) rfl (.inr ⟨rfl, rfl⟩)) ?_
              refine RegD.run 1 [(91, vb y21), (90, vb y21), (89, .agg [vt ((ix a1 v20.toNat).Name), eS 1 vi ((ix a1 v20.toNat).Sizes)]), (88, .fptr 2 (List.map eOfferedPart a1) v20.toNat 0), (87, vi v20), (86, eS 2 eOfferedPart a1), (85, .agg [vt ((ix a0 v16.toNat).Name), eS 2 eRange ((ix a0 v16.toNat).Ranges)]), (84, .fptr 2 (List.map eWantedPart a0) v16.toNat 0), (83, vi v16), (82, eS 2 eWantedPart a0), (0, eS 2 eWantedPart a0), (1, eS 2 eOfferedPart a1), (5, .ptr 0 0 0), (13, vi v16), (14, vi v20)] [some (.row 2 [.agg [eS 1 vi a2.a0, eS 1 vi a2.a1]]), none, none, none, none, none, none, none, none, none, none] (by kernel_rfl) ?_
              refine RegD.op (OpD.valk (g := y21) (v := .ptr 0 0 0) _ _ (cz (IG 92 (.aaddr 2 1 (.t 5) (.c (.p (.int .i64 0)))) 91 true) (by kernel_rfl)) rfl (by kernel_rfl) (fun hg => (.cons rfl (.cons rfl .nil)))) ?_
              refine RegD.op (OpD.valk (g := y21) (v := eS 1 vi a2.a0) _ _ (cz (IG 93 (.load false 1 (.t 92)) 91 true) (by kernel_rfl)) rfl (by kernel_rfl) (fun hg => (.cons hg .nil))) ?_
              refine RegD.op (OpD.valk (g := y21) (v := vi v16) _ _ (cz (IG 94 (.mov (.t 13)) 91 true) (by kernel_rfl)) rfl (by kernel_rfl) (fun hg => (.cons rfl .nil))) ?_
              obtain ⟨y22, hy22, h⟩ := bind_some h
              refine RegD.op (OpD.callg (g := y21) (y' := vb y22) (obx := []) _ _ (cz (IG 95 (.call 122 [(.t 93), (.t 94)]) 91 true) (by kernel_rfl)) rfl (fun hg => agraffebase_Has_ok n a2.a0 v16 y22 (gcall_some hy22 hg)) [] (fun hg => by kernel_rfl) (fun hg => (.cons rfl (.cons hg (.cons hg .nil)))) (by kernel_rfl) (by kernel_rfl) ObsRen.nil (by kernel_rfl) (by kernel_rfl) rfl) ?_
              refine RegD.op (OpD.valk (g := y21) (v := vb (!y22)) _ _ (cz (IG 96 (.un .not (.t 95)) 91 true) (by kernel_rfl)) rfl (by kernel_rfl) (fun hg => (.cons hg .nil))) ?_
              refine RegD.op (OpD.and (cz (I0 97 (.pick (.t 91) (.t 96) (.c (.p (.bool false))))) (by kernel_rfl)) rfl rfl (by first | exact hokA1 | exact hokA0 | simp)) ?_
              refine RegD.run 1 [(98, vb (y21 && (!y22))), (97, vb (y21 && (!y22))), (96, .cond y21 (vb (!y22))), (95, .cond y21 (vb y22)), (94, .cond y21 (vi v16)), (93, .cond y21 (eS 1 vi a2.a0)), (92, .cond y21 (.ptr 0 0 0)), (91, vb y21), (90, vb y21), (89, .agg [vt ((ix a1 v20.toNat).Name), eS 1 vi ((ix a1 v20.toNat).Sizes)]), (88, .fptr 2 (List.map eOfferedPart a1) v20.toNat 0), (87, vi v20), (86, eS 2 eOfferedPart a1), (85, .agg [vt ((ix a0 v16.toNat).Name), eS 2 eRange ((ix a0 v16.toNat).Ranges)]), (84, .fptr 2 (List.map eWantedPart a0) v16.toNat 0), (83, vi v16), (82, eS 2 eWantedPart a0), (0, eS 2 eWantedPart a0), (1, eS 2 eOfferedPart a1), (5, .ptr 0 0 0), (13, vi v16), (14, vi v20)] [some (.row 2 [.agg [eS 1 vi a2.a0, eS 1 vi a2.a1]]), none, none, none, none, none, none, none, none, none, none, none, none, none, none, none, none, none] (by kernel_rfl) ?_
              refine RegD.op (OpD.valk (g := y21 && (!y22)) (v := .ptr 0 0 1) _ _ (cz (IG 99 (.aaddr 2 1 (.t 5) (.c (.p (.int .i64 1)))) 98 true) (by kernel_rfl)) rfl (by kernel_rfl) (fun hg => (.cons rfl (.cons rfl .nil)))) ?_
              refine RegD.op (OpD.valk (g := y21 && (!y22)) (v := eS 1 vi a2.a1) _ _ (cz (IG 100 (.load false 1 (.t 99)) 98 true) (by kernel_rfl)) rfl (by kernel_rfl) (fun hg => (.cons hg .nil))) ?_
              refine RegD.op (OpD.valk (g := y21 && (!y22)) (v := vi v20) _ _ (cz (IG 101 (.mov (.t 14)) 98 true) (by kernel_rfl)) rfl (by kernel_rfl) (fun hg => (.cons rfl .nil))) ?_
              obtain ⟨y23, hy23, h⟩ := bind_some h
              refine RegD.op (OpD.callg (g := y21 && (!y22)) (y' := vb y23) (obx := []) _ _ (cz (IG 102 (.call 122 [(.t 100), (.t 101)]) 98 true) (by kernel_rfl)) rfl (fun hg => agraffebase_Has_ok n a2.a1 v20 y23 (gcall_some hy23 hg)) [] (fun hg => by kernel_rfl) (fun hg => (.cons rfl (.cons hg (.cons hg .nil)))) (by kernel_rfl) (by kernel_rfl) ObsRen.nil (by kernel_rfl) (by kernel_rfl) rfl) ?_
              refine RegD.op (OpD.valk (g := y21 && (!y22)) (v := vb (!y23)) _ _ (cz (IG 103 (.un .not (.t 102)) 98 true) (by kernel_rfl)) rfl (by kernel_rfl) (fun hg => (.cons hg .nil))) ?_
              refine RegD.op (OpD.and (cz (I0 104 (.pick (.t 98) (.t 103) (.c (.p (.bool false))))) (by kernel_rfl)) rfl rfl (by first | exact hokA1 | exact hokA0 | simp)) ?_
              refine RegD.done rfl (by kernel_rfl) (S' := ⟨[(0, eS 2 eWantedPart a0), (1, eS 2 eOfferedPart a1), (5, .ptr 0 0 0), (13, vi v16), (14, vi v20), (104, vb ((y21 && (!y22)) && (!y23)))], [some (.row 2 [.agg [eS 1 vi a2.a0, eS 1 vi a2.a1]])]⟩) (sc [0] (by decide) (by kernel_rfl) (.cons rfl .nil) rfl rfl) ?_
              refine TriE.cond (b := (y21 && (!y22)) && (!y23)) rfl (fun c41 => ?_) (fun c41 => ?_)
              · have h := cond_t h c41
                refine TriE.seq ?_
                refine TriE.run [(6, vi 0), (7, vi 14)] [some (.row 2 [.agg [eS 1 vi a2.a0, eS 1 vi a2.a1]])] (by kernel_rfl) ?_
                refine TriE.ret ?_
                have h := Option.some.inj h
                subst h
                exact DoneS.ret (S' := ⟨[(6, vi 0), (7, vi 14)], []⟩) (sc [] (by decide) (by kernel_rfl) ObRen.nil rfl rfl) rfl rfl
              have h := cond_f h c41
              refine TriE.skip ?_
              refine TriE.regJ ?_
              refine RegJ.run 1 [(0, eS 2 eWantedPart a0), (1, eS 2 eOfferedPart a1), (5, .ptr 0 0 0), (13, vi v16), (80, vi v20)] [some (.row 2 [.agg [eS 1 vi a2.a0, eS 1 vi a2.a1]])] (by kernel_rfl) ?_
              obtain ⟨c42, h⟩ := chk_some h
              refine jv (vi (v20 + 1)) (cz (I0 81 (.bin .add false (.t 80) (.c (.p (.int .i64 1))))) (by kernel_rfl)) (r_add rfl rfl c42) rfl ?_
              refine jrd 1 [(0, eS 2 eWantedPart a0), (1, eS 2 eOfferedPart a1), (5, .ptr 0 0 0), (13, vi v16), (14, vi (v20 + 1))] [some (.row 2 [.agg [eS 1 vi a2.a0, eS 1 vi a2.a1]])] (by kernel_rfl) rfl ?_
              exact Vs.intro Sees.refl ⟨(v20 + 1), rfl, h⟩
            have h := cond_f h c36
            refine TriE.exit ?_
            exact Vs.intro (sl (by kernel_rfl)) ⟨(), rfl, h⟩
          have h := cond_f h c35
          refine TriE.exit ?_
          exact Vs.intro (sl (by kernel_rfl)) ⟨(), rfl, h⟩
        intro k4 h
        refine TriE.block ?_
        refine TriE.seq ?_
        refine TriE.run [(0, eS 2 eWantedPart a0), (1, eS 2 eOfferedPart a1), (5, .ptr 0 0 0), (11, vi 1), (12, vi 1)] [some (.row 2 [.agg [eS 1 vi a2.a0, eS 1 vi a2.a1]])] (by kernel_rfl) ?_
        refine TriE.block ?_
        refine TriE.loopN h (fun (v8 : Int) => St.mk [(0, eS 2 eWantedPart a0), (1, eS 2 eOfferedPart a1), (5, .ptr 0 0 0), (11, vi 1), (12, vi v8)] [some (.row 2 [.agg [eS 1 vi a2.a0, eS 1 vi a2.a1]])]) rfl ?_
        clear h
        rintro back v8 h
        dsimp only [agrafferef08_CheckCover_L4] at h
        show TriE _ _ _ _ _ (St.mk [(0, eS 2 eWantedPart a0), (1, eS 2 eOfferedPart a1), (5, .ptr 0 0 0), (11, vi 1), (12, vi v8)] [some (.row 2 [.agg [eS 1 vi a2.a0, eS 1 vi a2.a1]])]) _
        refine TriE.seq ?_
        refine TriE.seq ?_
        refine TriE.regJ ?_
        refine RegJ.run 4 [(0, eS 2 eWantedPart a0), (1, eS 2 eOfferedPart a1), (5, .ptr 0 0 0), (11, vi 1), (12, vi v8), (48, vi v8), (51, eS 1 vi a2.a1)] [some (.row 2 [.agg [eS 1 vi a2.a0, eS 1 vi a2.a1]])] (by kernel_rfl) ?_
        refine jv (vi ((a2.a1.length : Nat) : Int)) (cz (I0 52 (.len 0 (.t 51))) (by kernel_rfl)) (ok_len_m rfl) rfl ?_
        refine jrd 1 [(0, eS 2 eWantedPart a0), (1, eS 2 eOfferedPart a1), (5, .ptr 0 0 0), (11, vi 1), (12, vi v8), (53, vb (decide (v8 < ((a2.a1.length : Nat) : Int))))] [some (.row 2 [.agg [eS 1 vi a2.a0, eS 1 vi a2.a1]])] (by kernel_rfl) rfl ?_
        refine TriE.cond (b := decide (v8 < ((a2.a1.length : Nat) : Int))) rfl (fun c26 => ?_) (fun c26 => ?_)
        · have h := cond_t h c26
          refine TriE.skip ?_
          refine TriE.seq ?_
          refine TriE.block ?_
          refine TriE.seq ?_
          refine TriE.sees (Sees.less (fr' := [(0, eS 2 eWantedPart a0), (1, eS 2 eOfferedPart a1), (5, .ptr 0 0 0), (11, vi 1), (12, vi v8)]) (.cons rfl (.cons rfl (.cons rfl (.cons rfl (.cons rfl .nil)))))) ?_
          refine TriE.draw (by kernel_rfl) ?_
          refine RegD.run 4 [(59, vi v8), (58, eS 1 vi a2.a1), (57, .ptr 0 0 1), (56, vi 1), (0, eS 2 eWantedPart a0), (1, eS 2 eOfferedPart a1), (5, .ptr 0 0 0), (11, vi 1), (12, vi v8)] [some (.row 2 [.agg [eS 1 vi a2.a0, eS 1 vi a2.a1]]), none, none, none, none] (by kernel_rfl) ?_
          obtain ⟨c27, h⟩ := chk_some h
          refine dv (vi (v8 - 1)) (cz (I0 60 (.bin .sub false (.t 59) (.c (.p (.int .i64 1))))) (by kernel_rfl)) (r_sub rfl rfl c27) rfl ?_
          obtain ⟨c28, h⟩ := chk_some h
          refine dv (.fptr 1 (List.map vi a2.a1) ((v8 - 1).toNat) 0) (cz (I0 61 (.iaddr 1 (.t 58) (.t 60))) (by kernel_rfl)) (ok_iaddr_m (j := (v8 - 1).toNat) rfl rfl (inB_to c28) (inB_lt c28)) rfl ?_
          obtain ⟨c29, h⟩ := chk_some h
          refine dv (vi (ix a2.a1 ((v8 - 1).toNat))) (cz (I0 62 (.load false 1 (.t 61))) (by kernel_rfl)) (ok_load_fm (v := vi (ix a2.a1 ((v8 - 1).toNat))) rfl c29 rfl) rfl ?_
          refine RegD.run 4 [(66, vi v8), (65, eS 1 vi a2.a1), (64, .ptr 0 0 1), (63, vi 1), (62, vi (ix a2.a1 ((v8 - 1).toNat))), (61, .fptr 1 (List.map vi a2.a1) ((v8 - 1).toNat) 0), (60, vi (v8 - 1)), (59, vi v8), (58, eS 1 vi a2.a1), (57, .ptr 0 0 1), (56, vi 1), (0, eS 2 eWantedPart a0), (1, eS 2 eOfferedPart a1), (5, .ptr 0 0 0), (11, vi 1), (12, vi v8)] [some (.row 2 [.agg [eS 1 vi a2.a0, eS 1 vi a2.a1]]), none, none, none, none, none, none, none, none, none, none, none] (by kernel_rfl) ?_
          obtain ⟨c30, h⟩ := chk_some h
          refine dv (.fptr 1 (List.map vi a2.a1) v8.toNat 0) (cz (I0 67 (.iaddr 1 (.t 65) (.t 66))) (by kernel_rfl)) (ok_iaddr_m (j := v8.toNat) rfl rfl (inB_to c30) (inB_lt c30)) rfl ?_
          obtain ⟨c31, h⟩ := chk_some h
          refine dv (vi (ix a2.a1 v8.toNat)) (cz (I0 68 (.load false 1 (.t 67))) (by kernel_rfl)) (ok_load_fm (v := vi (ix a2.a1 v8.toNat)) rfl c31 rfl) rfl ?_
          refine RegD.run 1 [(69, vb (decide ((ix a2.a1 v8.toNat) ≤ (ix a2.a1 ((v8 - 1).toNat))))), (68, vi (ix a2.a1 v8.toNat)), (67, .fptr 1 (List.map vi a2.a1) v8.toNat 0), (66, vi v8), (65, eS 1 vi a2.a1), (64, .ptr 0 0 1), (63, vi 1), (62, vi (ix a2.a1 ((v8 - 1).toNat))), (61, .fptr 1 (List.map vi a2.a1) ((v8 - 1).toNat) 0), (60, vi (v8 - 1)), (59, vi v8), (58, eS 1 vi a2.a1), (57, .ptr 0 0 1), (56, vi 1), (0, eS 2 eWantedPart a0), (1, eS 2 eOfferedPart a1), (5, .ptr 0 0 0), (11, vi 1), (12, vi v8)] [some (.row 2 [.agg [eS 1 vi a2.a0, eS 1 vi a2.a1]]), none, none, none, none, none, none, none, none, none, none, none, none, none, none] (by kernel_rfl) ?_
          refine RegD.done rfl (by kernel_rfl) (S' := ⟨[(0, eS 2 eWantedPart a0), (1, eS 2 eOfferedPart a1), (5, .ptr 0 0 0), (11, vi 1), (12, vi v8), (69, vb (decide ((ix a2.a1 v8.toNat) ≤ (ix a2.a1 ((v8 - 1).toNat)))))], [some (.row 2 [.agg [eS 1 vi a2.a0, eS 1 vi a2.a1]])]⟩) (sc [0] (by decide) (by kernel_rfl) (.cons rfl .nil) rfl rfl) ?_
          refine TriE.cond (b := decide ((ix a2.a1 v8.toNat) ≤ (ix a2.a1 ((v8 - 1).toNat)))) rfl (fun c32 => ?_) (fun c32 => ?_)
          · have h := cond_t h c32
            refine TriE.seq ?_
            refine TriE.run [(6, vi 0), (7, vi 9)] [some (.row 2 [.agg [eS 1 vi a2.a0, eS 1 vi a2.a1]])] (by kernel_rfl) ?_
            refine TriE.ret ?_
            have h := Option.some.inj h
            subst h
            exact DoneS.ret (S' := ⟨[(6, vi 0), (7, vi 9)], []⟩) (sc [] (by decide) (by kernel_rfl) ObRen.nil rfl rfl) rfl rfl
          have h := cond_f h c32
          refine TriE.skip ?_
          refine TriE.regJ ?_
          refine RegJ.run 1 [(0, eS 2 eWantedPart a0), (1, eS 2 eOfferedPart a1), (5, .ptr 0 0 0), (11, vi 1), (54, vi v8)] [some (.row 2 [.agg [eS 1 vi a2.a0, eS 1 vi a2.a1]])] (by kernel_rfl) ?_
          obtain ⟨c33, h⟩ := chk_some h
          refine jv (vi (v8 + 1)) (cz (I0 55 (.bin .add false (.t 54) (.c (.p (.int .i64 1))))) (by kernel_rfl)) (r_add rfl rfl c33) rfl ?_
          refine jrd 1 [(0, eS 2 eWantedPart a0), (1, eS 2 eOfferedPart a1), (5, .ptr 0 0 0), (11, vi 1), (12, vi (v8 + 1))] [some (.row 2 [.agg [eS 1 vi a2.a0, eS 1 vi a2.a1]])] (by kernel_rfl) rfl ?_
          exact Vs.intro Sees.refl ⟨(v8 + 1), rfl, h⟩
        have h := cond_f h c26
        refine TriE.exit ?_
        exact Vs.intro (sl (by kernel_rfl)) ⟨(), rfl, h⟩
      intro k3 h
      refine TriE.block ?_
      refine TriE.seq ?_
      refine TriE.run [(0, eS 2 eWantedPart a0), (1, eS 2 eOfferedPart a1), (5, .ptr 0 0 0), (11, vi 0), (12, vi 1)] [some (.row 2 [.agg [eS 1 vi a2.a0, eS 1 vi a2.a1]]), some (.row 2 [.agg [vi ((a0.length : Nat) : Int), vi ((a1.length : Nat) : Int)]])] (by kernel_rfl) ?_
      refine TriE.block ?_
      refine TriE.sees (S' := ⟨[(0, eS 2 eWantedPart a0), (1, eS 2 eOfferedPart a1), (5, .ptr 0 0 0), (11, vi 0), (12, vi 1)], [some (.row 2 [.agg [eS 1 vi a2.a0, eS 1 vi a2.a1]])]⟩) (sc [0] (by decide) (by kernel_rfl) (.cons rfl .nil) rfl rfl) ?_
      refine TriE.loopN h (fun (v7 : Int) => St.mk [(0, eS 2 eWantedPart a0), (1, eS 2 eOfferedPart a1), (5, .ptr 0 0 0), (11, vi 0), (12, vi v7)] [some (.row 2 [.agg [eS 1 vi a2.a0, eS 1 vi a2.a1]])]) rfl ?_
      clear h
      rintro back v7 h
      dsimp only [agrafferef08_CheckCover_L3] at h
      show TriE _ _ _ _ _ (St.mk [(0, eS 2 eWantedPart a0), (1, eS 2 eOfferedPart a1), (5, .ptr 0 0 0), (11, vi 0), (12, vi v7)] [some (.row 2 [.agg [eS 1 vi a2.a0, eS 1 vi a2.a1]])]) _
      refine TriE.seq ?_
      refine TriE.seq ?_
      refine TriE.regJ ?_
      refine RegJ.run 4 [(0, eS 2 eWantedPart a0), (1, eS 2 eOfferedPart a1), (5, .ptr 0 0 0), (11, vi 0), (12, vi v7), (48, vi v7), (51, eS 1 vi a2.a0)] [some (.row 2 [.agg [eS 1 vi a2.a0, eS 1 vi a2.a1]])] (by kernel_rfl) ?_
      refine jv (vi ((a2.a0.length : Nat) : Int)) (cz (I0 52 (.len 0 (.t 51))) (by kernel_rfl)) (ok_len_m rfl) rfl ?_
      refine jrd 1 [(0, eS 2 eWantedPart a0), (1, eS 2 eOfferedPart a1), (5, .ptr 0 0 0), (11, vi 0), (12, vi v7), (53, vb (decide (v7 < ((a2.a0.length : Nat) : Int))))] [some (.row 2 [.agg [eS 1 vi a2.a0, eS 1 vi a2.a1]])] (by kernel_rfl) rfl ?_
      refine TriE.cond (b := decide (v7 < ((a2.a0.length : Nat) : Int))) rfl (fun c17 => ?_) (fun c17 => ?_)
      · have h := cond_t h c17
        refine TriE.skip ?_
        refine TriE.seq ?_
        refine TriE.block ?_
        refine TriE.seq ?_
        refine TriE.sees (Sees.less (fr' := [(0, eS 2 eWantedPart a0), (1, eS 2 eOfferedPart a1), (5, .ptr 0 0 0), (11, vi 0), (12, vi v7)]) (.cons rfl (.cons rfl (.cons rfl (.cons rfl (.cons rfl .nil)))))) ?_
        refine TriE.draw (by kernel_rfl) ?_
        refine RegD.run 4 [(59, vi v7), (58, eS 1 vi a2.a0), (57, .ptr 0 0 0), (56, vi 0), (0, eS 2 eWantedPart a0), (1, eS 2 eOfferedPart a1), (5, .ptr 0 0 0), (11, vi 0), (12, vi v7)] [some (.row 2 [.agg [eS 1 vi a2.a0, eS 1 vi a2.a1]]), none, none, none, none] (by kernel_rfl) ?_
        obtain ⟨c18, h⟩ := chk_some h
        refine dv (vi (v7 - 1)) (cz (I0 60 (.bin .sub false (.t 59) (.c (.p (.int .i64 1))))) (by kernel_rfl)) (r_sub rfl rfl c18) rfl ?_
        obtain ⟨c19, h⟩ := chk_some h
        refine dv (.fptr 1 (List.map vi a2.a0) ((v7 - 1).toNat) 0) (cz (I0 61 (.iaddr 1 (.t 58) (.t 60))) (by kernel_rfl)) (ok_iaddr_m (j := (v7 - 1).toNat) rfl rfl (inB_to c19) (inB_lt c19)) rfl ?_
        obtain ⟨c20, h⟩ := chk_some h
        refine dv (vi (ix a2.a0 ((v7 - 1).toNat))) (cz (I0 62 (.load false 1 (.t 61))) (by kernel_rfl)) (ok_load_fm (v := vi (ix a2.a0 ((v7 - 1).toNat))) rfl c20 rfl) rfl ?_
        refine RegD.run 4 [(66, vi v7), (65, eS 1 vi a2.a0), (64, .ptr 0 0 0), (63, vi 0), (62, vi (ix a2.a0 ((v7 - 1).toNat))), (61, .fptr 1 (List.map vi a2.a0) ((v7 - 1).toNat) 0), (60, vi (v7 - 1)), (59, vi v7), (58, eS 1 vi a2.a0), (57, .ptr 0 0 0), (56, vi 0), (0, eS 2 eWantedPart a0), (1, eS 2 eOfferedPart a1), (5, .ptr 0 0 0), (11, vi 0), (12, vi v7)] [some (.row 2 [.agg [eS 1 vi a2.a0, eS 1 vi a2.a1]]), none, none, none, none, none, none, none, none, none, none, none] (by kernel_rfl) ?_
        obtain ⟨c21, h⟩ := chk_some h
        refine dv (.fptr 1 (List.map vi a2.a0) v7.toNat 0) (cz (I0 67 (.iaddr 1 (.t 65) (.t 66))) (by kernel_rfl)) (ok_iaddr_m (j := v7.toNat) rfl rfl (inB_to c21) (inB_lt c21)) rfl ?_
        obtain ⟨c22, h⟩ := chk_some h
        refine dv (vi (ix a2.a0 v7.toNat)) (cz (I0 68 (.load false 1 (.t 67))) (by kernel_rfl)) (ok_load_fm (v := vi (ix a2.a0 v7.toNat)) rfl c22 rfl) rfl ?_
        refine RegD.run 1 [(69, vb (decide ((ix a2.a0 v7.toNat) ≤ (ix a2.a0 ((v7 - 1).toNat))))), (68, vi (ix a2.a0 v7.toNat)), (67, .fptr 1 (List.map vi a2.a0) v7.toNat 0), (66, vi v7), (65, eS 1 vi a2.a0), (64, .ptr 0 0 0), (63, vi 0), (62, vi (ix a2.a0 ((v7 - 1).toNat))), (61, .fptr 1 (List.map vi a2.a0) ((v7 - 1).toNat) 0), (60, vi (v7 - 1)), (59, vi v7), (58, eS 1 vi a2.a0), (57, .ptr 0 0 0), (56, vi 0), (0, eS 2 eWantedPart a0), (1, eS 2 eOfferedPart a1), (5, .ptr 0 0 0), (11, vi 0), (12, vi v7)] [some (.row 2 [.agg [eS 1 vi a2.a0, eS 1 vi a2.a1]]), none, none, none, none, none, none, none, none, none, none, none, none, none, none] (by kernel_rfl) ?_
        refine RegD.done rfl (by kernel_rfl) (S' := ⟨[(0, eS 2 eWantedPart a0), (1, eS 2 eOfferedPart a1), (5, .ptr 0 0 0), (11, vi 0), (12, vi v7), (69, vb (decide ((ix a2.a0 v7.toNat) ≤ (ix a2.a0 ((v7 - 1).toNat)))))], [some (.row 2 [.agg [eS 1 vi a2.a0, eS 1 vi a2.a1]])]⟩) (sc [0] (by decide) (by kernel_rfl) (.cons rfl .nil) rfl rfl) ?_
        refine TriE.cond (b := decide ((ix a2.a0 v7.toNat) ≤ (ix a2.a0 ((v7 - 1).toNat)))) rfl (fun c23 => ?_) (fun c23 => ?_)
        · have h := cond_t h c23
          refine TriE.seq ?_
          refine TriE.run [(6, vi 0), (7, vi 9)] [some (.row 2 [.agg [eS 1 vi a2.a0, eS 1 vi a2.a1]])] (by kernel_rfl) ?_
          refine TriE.ret ?_
          have h := Option.some.inj h
          subst h
          exact DoneS.ret (S' := ⟨[(6, vi 0), (7, vi 9)], []⟩) (sc [] (by decide) (by kernel_rfl) ObRen.nil rfl rfl) rfl rfl
        have h := cond_f h c23
        refine TriE.skip ?_
        refine TriE.regJ ?_
        refine RegJ.run 1 [(0, eS 2 eWantedPart a0), (1, eS 2 eOfferedPart a1), (5, .ptr 0 0 0), (11, vi 0), (54, vi v7)] [some (.row 2 [.agg [eS 1 vi a2.a0, eS 1 vi a2.a1]])] (by kernel_rfl) ?_
        obtain ⟨c24, h⟩ := chk_some h
        refine jv (vi (v7 + 1)) (cz (I0 55 (.bin .add false (.t 54) (.c (.p (.int .i64 1))))) (by kernel_rfl)) (r_add rfl rfl c24) rfl ?_
        refine jrd 1 [(0, eS 2 eWantedPart a0), (1, eS 2 eOfferedPart a1), (5, .ptr 0 0 0), (11, vi 0), (12, vi (v7 + 1))] [some (.row 2 [.agg [eS 1 vi a2.a0, eS 1 vi a2.a1]])] (by kernel_rfl) rfl ?_
        exact Vs.intro Sees.refl ⟨(v7 + 1), rfl, h⟩
      have h := cond_f h c17
      refine TriE.exit ?_
      exact Vs.intro (sl (by kernel_rfl)) ⟨(), rfl, h⟩
    intro k2 h
    refine TriE.block ?_
    refine TriE.seq ?_
    refine TriE.run [(0, eS 2 eWantedPart a0), (1, eS 2 eOfferedPart a1), (5, .ptr 0 0 0), (8, .ptr 1 0 0), (9, vi 1), (10, vi 0)] [some (.row 2 [.agg [eS 1 vi a2.a0, eS 1 vi a2.a1]]), some (.row 2 [.agg [vi ((a0.length : Nat) : Int), vi ((a1.length : Nat) : Int)]])] (by kernel_rfl) ?_
    refine TriE.block ?_
    refine TriE.loopN h (fun (v5 : Int) => St.mk [(0, eS 2 eWantedPart a0), (1, eS 2 eOfferedPart a1), (5, .ptr 0 0 0), (8, .ptr 1 0 0), (9, vi 1), (10, vi v5)] [some (.row 2 [.agg [eS 1 vi a2.a0, eS 1 vi a2.a1]]), some (.row 2 [.agg [vi ((a0.length : Nat) : Int), vi ((a1.length : Nat) : Int)]])]) rfl ?_
    clear h
    rintro back v5 h
    dsimp only [agrafferef08_CheckCover_L2] at h
    show TriE _ _ _ _ _ (St.mk [(0, eS 2 eWantedPart a0), (1, eS 2 eOfferedPart a1), (5, .ptr 0 0 0), (8, .ptr 1 0 0), (9, vi 1), (10, vi v5)] [some (.row 2 [.agg [eS 1 vi a2.a0, eS 1 vi a2.a1]]), some (.row 2 [.agg [vi ((a0.length : Nat) : Int), vi ((a1.length : Nat) : Int)]])]) _
    refine TriE.seq ?_
    refine TriE.seq ?_
    refine TriE.regJ ?_
    refine RegJ.run 4 [(0, eS 2 eWantedPart a0), (1, eS 2 eOfferedPart a1), (5, .ptr 0 0 0), (8, .ptr 1 0 0), (9, vi 1), (10, vi v5), (24, vi v5), (27, eS 1 vi a2.a1)] [some (.row 2 [.agg [eS 1 vi a2.a0, eS 1 vi a2.a1]]), some (.row 2 [.agg [vi ((a0.length : Nat) : Int), vi ((a1.length : Nat) : Int)]])] (by kernel_rfl) ?_
    refine jv (vi ((a2.a1.length : Nat) : Int)) (cz (I0 28 (.len 0 (.t 27))) (by kernel_rfl)) (ok_len_m rfl) rfl ?_
    refine jrd 1 [(0, eS 2 eWantedPart a0), (1, eS 2 eOfferedPart a1), (5, .ptr 0 0 0), (8, .ptr 1 0 0), (9, vi 1), (10, vi v5), (29, vb (decide (v5 < ((a2.a1.length : Nat) : Int))))] [some (.row 2 [.agg [eS 1 vi a2.a0, eS 1 vi a2.a1]]), some (.row 2 [.agg [vi ((a0.length : Nat) : Int), vi ((a1.length : Nat) : Int)]])] (by kernel_rfl) rfl ?_
    refine TriE.cond (b := decide (v5 < ((a2.a1.length : Nat) : Int))) rfl (fun c9 => ?_) (fun c9 => ?_)
    · have h := cond_t h c9
      refine TriE.skip ?_
      refine TriE.seq ?_
      refine TriE.block ?_
      refine TriE.seq ?_
      refine TriE.sees (Sees.less (fr' := [(0, eS 2 eWantedPart a0), (1, eS 2 eOfferedPart a1), (5, .ptr 0 0 0), (8, .ptr 1 0 0), (9, vi 1), (10, vi v5)]) (.cons rfl (.cons rfl (.cons rfl (.cons rfl (.cons rfl (.cons rfl .nil))))))) ?_
      refine TriE.draw (by kernel_rfl) ?_
      refine RegD.run 4 [(35, vi v5), (34, eS 1 vi a2.a1), (33, .ptr 0 0 1), (32, vi 1), (0, eS 2 eWantedPart a0), (1, eS 2 eOfferedPart a1), (5, .ptr 0 0 0), (8, .ptr 1 0 0), (9, vi 1), (10, vi v5)] [some (.row 2 [.agg [eS 1 vi a2.a0, eS 1 vi a2.a1]]), some (.row 2 [.agg [vi ((a0.length : Nat) : Int), vi ((a1.length : Nat) : Int)]]), none, none, none, none] (by kernel_rfl) ?_
      obtain ⟨c10, h⟩ := chk_some h
      refine dv (.fptr 1 (List.map vi a2.a1) v5.toNat 0) (cz (I0 36 (.iaddr 1 (.t 34) (.t 35))) (by kernel_rfl)) (ok_iaddr_m (j := v5.toNat) rfl rfl (inB_to c10) (inB_lt c10)) rfl ?_
      obtain ⟨c11, h⟩ := chk_some h
      refine dv (vi (ix a2.a1 v5.toNat)) (cz (I0 37 (.load false 1 (.t 36))) (by kernel_rfl)) (ok_load_fm (v := vi (ix a2.a1 v5.toNat)) rfl c11 rfl) rfl ?_
      refine RegD.run 3 [(40, vi ((a1.length : Nat) : Int)), (39, .ptr 1 0 1), (38, vi 1), (37, vi (ix a2.a1 v5.toNat)), (36, .fptr 1 (List.map vi a2.a1) v5.toNat 0), (35, vi v5), (34, eS 1 vi a2.a1), (33, .ptr 0 0 1), (32, vi 1), (0, eS 2 eWantedPart a0), (1, eS 2 eOfferedPart a1), (5, .ptr 0 0 0), (8, .ptr 1 0 0), (9, vi 1), (10, vi v5)] [some (.row 2 [.agg [eS 1 vi a2.a0, eS 1 vi a2.a1]]), some (.row 2 [.agg [vi ((a0.length : Nat) : Int), vi ((a1.length : Nat) : Int)]]), none, none, none, none, none, none, none, none, none] (by kernel_rfl) ?_
      obtain ⟨c12, h⟩ := chk_some h
      refine dv (vi (((a1.length : Nat) : Int) - 1)) (cz (I0 41 (.bin .sub false (.t 40) (.c (.p (.int .i64 1))))) (by kernel_rfl)) (r_sub rfl rfl c12) rfl ?_
      obtain ⟨y6, hy6, h⟩ := bind_some h
      refine RegD.op (OpD.call (y' := vb ((decide (0 ≤ (ix a2.a1 v5.toNat))) && (decide ((ix a2.a1 v5.toNat) ≤ (((a1.length : Nat) : Int) - 1))))) (obx := []) (oby := []) (ob2 := [some (.row 2 [.agg [eS 1 vi a2.a0, eS 1 vi a2.a1]]), some (.row 2 [.agg [vi ((a0.length : Nat) : Int), vi ((a1.length : Nat) : Int)]]), none, none, none, none, none, none, none, none, none, none, none]) (tch := []) 0 _ _ (cz (I0 42 (.call 90 [(.t 37), (.c (.p (.int .i64 0))), (.t 41)])) (by kernel_rfl)) (agraffebase_Within_ok n (ix a2.a1 v5.toNat) 0 (((a1.length : Nat) : Int) - 1) y6 hy6) [] (by kernel_rfl) (.cons rfl (.cons rfl (.cons rfl (.cons rfl .nil)))) (by kernel_rfl) (by kernel_rfl) ObsRen.nil (by kernel_rfl) ObsRen.nil (by kernel_rfl) rfl (.inr ⟨rfl, rfl⟩)) ?_
      refine RegD.run 1 [(43, vb (!((decide (0 ≤ (ix a2.a1 v5.toNat))) && (decide ((ix a2.a1 v5.toNat) ≤ (((a1.length : Nat) : Int) - 1)))))), (42, vb ((decide (0 ≤ (ix a2.a1 v5.toNat))) && (decide ((ix a2.a1 v5.toNat) ≤ (((a1.length : Nat) : Int) - 1))))), (41, vi (((a1.length : Nat) : Int) - 1)), (40, vi ((a1.length : Nat) : Int)), (39, .ptr 1 0 1), (38, vi 1), (37, vi (ix a2.a1 v5.toNat)), (36, .fptr 1 (List.map vi a2.a1) v5.toNat 0), (35, vi v5), (34, eS 1 vi a2.a1), (33, .ptr 0 0 1), (32, vi 1), (0, eS 2 eWantedPart a0), (1, eS 2 eOfferedPart a1), (5, .ptr 0 0 0), (8, .ptr 1 0 0), (9, vi 1), (10, vi v5)] [some (.row 2 [.agg [eS 1 vi a2.a0, eS 1 vi a2.a1]]), some (.row 2 [.agg [vi ((a0.length : Nat) : Int), vi ((a1.length : Nat) : Int)]]), none, none, none, none, none, none, none, none, none, none, none, none] (by kernel_rfl) ?_
      refine RegD.done rfl (by kernel_rfl) (S' := ⟨[(0, eS 2 eWantedPart a0), (1, eS 2 eOfferedPart a1), (5, .ptr 0 0 0), (8, .ptr 1 0 0), (9, vi 1), (10, vi v5), (43, vb (!((decide (0 ≤ (ix a2.a1 v5.toNat))) && (decide ((ix a2.a1 v5.toNat) ≤ (((a1.length : Nat) : Int) - 1))))))], [some (.row 2 [.agg [eS 1 vi a2.a0, eS 1 vi a2.a1]]), some (.row 2 [.agg [vi ((a0.length : Nat) : Int), vi ((a1.length : Nat) : Int)]])]⟩) (sc [0, 1] (by decide) (by kernel_rfl) (.cons rfl (.cons rfl .nil)) rfl rfl) ?_
      refine TriE.cond (b := !((decide (0 ≤ (ix a2.a1 v5.toNat))) && (decide ((ix a2.a1 v5.toNat) ≤ (((a1.length : Nat) : Int) - 1))))) rfl (fun c13 => ?_) (fun c13 => ?_)
      · have h := cond_t h c13
        refine TriE.seq ?_
        refine TriE.run [(6, vi 0), (7, vi 6)] [some (.row 2 [.agg [eS 1 vi a2.a0, eS 1 vi a2.a1]]), some (.row 2 [.agg [vi ((a0.length : Nat) : Int), vi ((a1.length : Nat) : Int)]])] (by kernel_rfl) ?_
        refine TriE.ret ?_
        have h := Option.some.inj h
        subst h
        exact DoneS.ret (S' := ⟨[(6, vi 0), (7, vi 6)], []⟩) (sc [] (by decide) (by kernel_rfl) ObRen.nil rfl rfl) rfl rfl
      have h := cond_f h c13
      refine TriE.skip ?_
      refine TriE.regJ ?_
      refine RegJ.run 1 [(0, eS 2 eWantedPart a0), (1, eS 2 eOfferedPart a1), (5, .ptr 0 0 0), (8, .ptr 1 0 0), (9, vi 1), (30, vi v5)] [some (.row 2 [.agg [eS 1 vi a2.a0, eS 1 vi a2.a1]]), some (.row 2 [.agg [vi ((a0.length : Nat) : Int), vi ((a1.length : Nat) : Int)]])] (by kernel_rfl) ?_
      obtain ⟨c14, h⟩ := chk_some h
      refine jv (vi (v5 + 1)) (cz (I0 31 (.bin .add false (.t 30) (.c (.p (.int .i64 1))))) (by kernel_rfl)) (r_add rfl rfl c14) rfl ?_
      refine jrd 1 [(0, eS 2 eWantedPart a0), (1, eS 2 eOfferedPart a1), (5, .ptr 0 0 0), (8, .ptr 1 0 0), (9, vi 1), (10, vi (v5 + 1))] [some (.row 2 [.agg [eS 1 vi a2.a0, eS 1 vi a2.a1]]), some (.row 2 [.agg [vi ((a0.length : Nat) : Int), vi ((a1.length : Nat) : Int)]])] (by kernel_rfl) rfl ?_
      exact Vs.intro Sees.refl ⟨(v5 + 1), rfl, h⟩
    have h := cond_f h c9
    refine TriE.exit ?_
    exact Vs.intro (sl (by kernel_rfl)) ⟨(), rfl, h⟩
  intro k1 h
  refine TriE.block ?_
  refine TriE.seq ?_
  refine TriE.run [(0, eS 2 eWantedPart a0), (1, eS 2 eOfferedPart a1), (5, .ptr 0 0 0), (8, .ptr 1 0 0), (9, vi 0), (10, vi 0)] [some (.row 2 [.agg [eS 1 vi a2.a0, eS 1 vi a2.a1]]), some (.row 2 [.agg [vi ((a0.length : Nat) : Int), vi ((a1.length : Nat) : Int)]])] (by kernel_rfl) ?_
  refine TriE.block ?_
  refine TriE.loopN h (fun (v2 : Int) => St.mk [(0, eS 2 eWantedPart a0), (1, eS 2 eOfferedPart a1), (5, .ptr 0 0 0), (8, .ptr 1 0 0), (9, vi 0), (10, vi v2)] [some (.row 2 [.agg [eS 1 vi a2.a0, eS 1 vi a2.a1]]), some (.row 2 [.agg [vi ((a0.length : Nat) : Int), vi ((a1.length : Nat) : Int)]])]) rfl ?_
  clear h
  rintro back v2 h
  dsimp only [agrafferef08_CheckCover_L1] at h
  show TriE _ _ _ _ _ (St.mk [(0, eS 2 eWantedPart a0), (1, eS 2 eOfferedPart a1), (5, .ptr 0 0 0), (8, .ptr 1 0 0), (9, vi 0), (10, vi v2)] [some (.row 2 [.agg [eS 1 vi a2.a0, eS 1 vi a2.a1]]), some (.row 2 [.agg [vi ((a0.length : Nat) : Int), vi ((a1.length : Nat) : Int)]])]) _
  refine TriE.seq ?_
  refine TriE.seq ?_
  refine TriE.regJ ?_
  refine RegJ.run 4 [(0, eS 2 eWantedPart a0), (1, eS 2 eOfferedPart a1), (5, .ptr 0 0 0), (8, .ptr 1 0 0), (9, vi 0), (10, vi v2), (24, vi v2), (27, eS 1 vi a2.a0)] [some (.row 2 [.agg [eS 1 vi a2.a0, eS 1 vi a2.a1]]), some (.row 2 [.agg [vi ((a0.length : Nat) : Int), vi ((a1.length : Nat) : Int)]])] (by kernel_rfl) ?_
  refine jv (vi ((a2.a0.length : Nat) : Int)) (cz (I0 28 (.len 0 (.t 27))) (by kernel_rfl)) (ok_len_m rfl) rfl ?_
  refine jrd 1 [(0, eS 2 eWantedPart a0), (1, eS 2 eOfferedPart a1), (5, .ptr 0 0 0), (8, .ptr 1 0 0), (9, vi 0), (10, vi v2), (29, vb (decide (v2 < ((a2.a0.length : Nat) : Int))))] [some (.row 2 [.agg [eS 1 vi a2.a0, eS 1 vi a2.a1]]), some (.row 2 [.agg [vi ((a0.length : Nat) : Int), vi ((a1.length : Nat) : Int)]])] (by kernel_rfl) rfl ?_
  refine TriE.cond (b := decide (v2 < ((a2.a0.length : Nat) : Int))) rfl (fun c2 => ?_) (fun c2 => ?_)
  · have h := cond_t h c2
    refine TriE.skip ?_
    refine TriE.seq ?_
    refine TriE.block ?_
    refine TriE.seq ?_
    refine TriE.sees (Sees.less (fr' := [(0, eS 2 eWantedPart a0), (1, eS 2 eOfferedPart a1), (5, .ptr 0 0 0), (8, .ptr 1 0 0), (9, vi 0), (10, vi v2)]) (.cons rfl (.cons rfl (.cons rfl (.cons rfl (.cons rfl (.cons rfl .nil))))))) ?_
    refine TriE.draw (by kernel_rfl) ?_
    refine RegD.run 4 [(35, vi v2), (34, eS 1 vi a2.a0), (33, .ptr 0 0 0), (32, vi 0), (0, eS 2 eWantedPart a0), (1, eS 2 eOfferedPart a1), (5, .ptr 0 0 0), (8, .ptr 1 0 0), (9, vi 0), (10, vi v2)] [some (.row 2 [.agg [eS 1 vi a2.a0, eS 1 vi a2.a1]]), some (.row 2 [.agg [vi ((a0.length : Nat) : Int), vi ((a1.length : Nat) : Int)]]), none, none, none, none] (by kernel_rfl) ?_
    obtain ⟨c3, h⟩ := chk_some h
    refine dv (.fptr 1 (List.map vi a2.a0) v2.toNat 0) (cz (I0 36 (.iaddr 1 (.t 34) (.t 35))) (by kernel_rfl)) (ok_iaddr_m (j := v2.toNat) rfl rfl (inB_to c3) (inB_lt c3)) rfl ?_
    obtain ⟨c4, h⟩ := chk_some h
    refine dv (vi (ix a2.a0 v2.toNat)) (cz (I0 37 (.load false 1 (.t 36))) (by kernel_rfl)) (ok_load_fm (v := vi (ix a2.a0 v2.toNat)) rfl c4 rfl) rfl ?_
    refine RegD.run 3 [(40, vi ((a0.length : Nat) : Int)), (39, .ptr 1 0 0), (38, vi 0), (37, vi (ix a2.a0 v2.toNat)), (36, .fptr 1 (List.map vi a2.a0) v2.toNat 0), (35, vi v2), (34, eS 1 vi a2.a0), (33, .ptr 0 0 0), (32, vi 0), (0, eS 2 eWantedPart a0), (1, eS 2 eOfferedPart a1), (5, .ptr 0 0 0), (8, .ptr 1 0 0), (9, vi 0), (10, vi v2)] [some (.row 2 [.agg [eS 1 vi a2.a0, eS 1 vi a2.a1]]), some (.row 2 [.agg [vi ((a0.length : Nat) : Int), vi ((a1.length : Nat) : Int)]]), none, none, none, none, none, none, none, none, none] (by kernel_rfl) ?_
    obtain ⟨c5, h⟩ := chk_some h
    refine dv (vi (((a0.length : Nat) : Int) - 1)) (cz (I0 41 (.bin .sub false (.t 40) (.c (.p (.int .i64 1))))) (by kernel_rfl)) (r_sub rfl rfl c5) rfl ?_
    obtain ⟨y3, hy3, h⟩ := bind_some h
    refine RegD.op (OpD.call (y' := vb ((decide (0 ≤ (ix a2.a0 v2.toNat))) && (decide ((ix a2.a0 v2.toNat) ≤ (((a0.length : Nat) : Int) - 1))))) (obx := []) (oby := []) (ob2 := [some (.row 2 [.agg [eS 1 vi a2.a0, eS 1 vi a2.a1]]), some (.row 2 [.agg [vi ((a0.length : Nat) : Int), vi ((a1.length : Nat) : Int)]]), none, none, none, none, none, none, none, none, none, none, none]) (tch := []) 0 _ _ (cz (I0 42 (.call 90 [(.t 37), (.c (.p (.int .i64 0))), (.t 41)])) (by kernel_rfl)) (agraffebase_Within_ok n (ix a2.a0 v2.toNat) 0 (((a0.length : Nat) : Int) - 1) y3 hy3) [] (by kernel_rfl) (.cons rfl (.cons rfl (.cons rfl (.cons rfl .nil)))) (by kernel_rfl) (by kernel_rfl) ObsRen.nil (by kernel_rfl) ObsRen.nil (by kernel_rfl) rfl (.inr ⟨rfl, rfl⟩)) ?_
    refine RegD.run 1 [(43, vb (!((decide (0 ≤ (ix a2.a0 v2.toNat))) && (decide ((ix a2.a0 v2.toNat) ≤ (((a0.length : Nat) : Int) - 1)))))), (42, vb ((decide (0 ≤ (ix a2.a0 v2.toNat))) && (decide ((ix a2.a0 v2.toNat) ≤ (((a0.length : Nat) : Int) - 1))))), (41, vi (((a0.length : Nat) : Int) - 1)), (40, vi ((a0.length : Nat) : Int)), (39, .ptr 1 0 0), (38, vi 0), (37, vi (ix a2.a0 v2.toNat)), (36, .fptr 1 (List.map vi a2.a0) v2.toNat 0), (35, vi v2), (34, eS 1 vi a2.a0), (33, .ptr 0 0 0), (32, vi 0), (0, eS 2 eWantedPart a0), (1, eS 2 eOfferedPart a1), (5, .ptr 0 0 0), (8, .ptr 1 0 0), (9, vi 0), (10, vi v2)] [some (.row 2 [.agg [eS 1 vi a2.a0, eS 1 vi a2.a1]]), some (.row 2 [.agg [vi ((a0.length : Nat) : Int), vi ((a1.length : Nat) : Int)]]), none, none, none, none, none, none, none, none, none, none, none, none] (by kernel_rfl) ?_
    refine RegD.done rfl (by kernel_rfl) (S' := ⟨[(0, eS 2 eWantedPart a0), (1, eS 2 eOfferedPart a1), (5, .ptr 0 0 0), (8, .ptr 1 0 0), (9, vi 0), (10, vi v2), (43, vb (!((decide (0 ≤ (ix a2.a0 v2.toNat))) && (decide ((ix a2.a0 v2.toNat) ≤ (((a0.length : Nat) : Int) - 1))))))], [some (.row 2 [.agg [eS 1 vi a2.a0, eS 1 vi a2.a1]]), some (.row 2 [.agg [vi ((a0.length : Nat) : Int), vi ((a1.length : Nat) : Int)]])]⟩) (sc [0, 1] (by decide) (by kernel_rfl) (.cons rfl (.cons rfl .nil)) rfl rfl) ?_
    refine TriE.cond (b := !((decide (0 ≤ (ix a2.a0 v2.toNat))) && (decide ((ix a2.a0 v2.toNat) ≤ (((a0.length : Nat) : Int) - 1))))) rfl (fun c6 => ?_) (fun c6 => ?_)
    · have h := cond_t h c6
      refine TriE.seq ?_
      refine TriE.run [(6, vi 0), (7, vi 6)] [some (.row 2 [.agg [eS 1 vi a2.a0, eS 1 vi a2.a1]]), some (.row 2 [.agg [vi ((a0.length : Nat) : Int), vi ((a1.length : Nat) : Int)]])] (by kernel_rfl) ?_
      refine TriE.ret ?_
      have h := Option.some.inj h
      subst h
      exact DoneS.ret (S' := ⟨[(6, vi 0), (7, vi 6)], []⟩) (sc [] (by decide) (by kernel_rfl) ObRen.nil rfl rfl) rfl rfl
    have h := cond_f h c6
    refine TriE.skip ?_
    refine TriE.regJ ?_
    refine RegJ.run 1 [(0, eS 2 eWantedPart a0), (1, eS 2 eOfferedPart a1), (5, .ptr 0 0 0), (8, .ptr 1 0 0), (9, vi 0), (30, vi v2)] [some (.row 2 [.agg [eS 1 vi a2.a0, eS 1 vi a2.a1]]), some (.row 2 [.agg [vi ((a0.length : Nat) : Int), vi ((a1.length : Nat) : Int)]])] (by kernel_rfl) ?_
    obtain ⟨c7, h⟩ := chk_some h
    refine jv (vi (v2 + 1)) (cz (I0 31 (.bin .add false (.t 30) (.c (.p (.int .i64 1))))) (by kernel_rfl)) (r_add rfl rfl c7) rfl ?_
    refine jrd 1 [(0, eS 2 eWantedPart a0), (1, eS 2 eOfferedPart a1), (5, .ptr 0 0 0), (8, .ptr 1 0 0), (9, vi 0), (10, vi (v2 + 1))] [some (.row 2 [.agg [eS 1 vi a2.a0, eS 1 vi a2.a1]]), some (.row 2 [.agg [vi ((a0.length : Nat) : Int), vi ((a1.length : Nat) : Int)]])] (by kernel_rfl) rfl ?_
    exact Vs.intro Sees.refl ⟨(v2 + 1), rfl, h⟩
  have h := cond_f h c2
  refine TriE.exit ?_
  exact Vs.intro (sl (by kernel_rfl)) ⟨(), rfl, h⟩
theorem restore_Fits_ok (n : Nat) (a0 : WantedPart) (a1 : OfferedPart) (r : Int × Bool) (h : restore_Fits n a0 a1 = some r) : FnL Tryz.prog 60 [.agg [vt a0.Name, eS 2 eRange a0.Ranges], .agg [vt a1.Name, eS 1 vi a1.Sizes]] [] (.tup [vb r.2, vi r.1]) [] := by
 dsimp only [restore_Fits] at h
 refine fo [4, 5] Tryz.call60 Tryz.func60 rfl ?_
 refine sko (.i 2 (.ptr 0 0 0) (.i 3 (.ptr 1 0 0) .n)) [some (.row 2 [.agg [vt a0.Name, eS 2 eRange a0.Ranges]]), some (.row 2 [.agg [vt a1.Name, eS 1 vi a1.Sizes]])] ?_
 refine q1 ?_
 refine sj ?_
 refine rko 4 (.k2 (.i 8 (.own 2 0 1) (.i 10 (.own 3 0 1) .n))) [some (.row 2 [.agg [vt a0.Name, eS 2 eRange a0.Ranges]]), some (.row 2 [.agg [vt a1.Name, eS 1 vi a1.Sizes]]), some (.row 2 [.agg [vt a0.Name, eS 2 eRange a0.Ranges]]), some (.row 2 [.agg [vt a1.Name, eS 1 vi a1.Sizes]])] ?_
 refine RegJ.sees (Sees.freeze 2 (fr' := [(2, .ptr 0 0 0), (3, .ptr 1 0 0), (8, eS 2 eWantedPart ([a0] : List WantedPart)), (10, .own 3 0 1)]) (ob' := [some (.row 2 [.agg [vt a0.Name, eS 2 eRange a0.Ranges]]), some (.row 2 [.agg [vt a1.Name, eS 1 vi a1.Sizes]]), none, some (.row 2 [.agg [vt a1.Name, eS 1 vi a1.Sizes]])]) rfl (frzs_cons rfl frzs_nil) (.cons (.refl _) (.cons (.refl _) (.cons (.own rfl (Nat.le_of_ble_eq_true rfl)) (.cons (.refl _) .nil)))) rfl) ?_
 refine RegJ.sees (Sees.freeze 3 (fr' := [(2, .ptr 0 0 0), (3, .ptr 1 0 0), (8, eS 2 eWantedPart ([a0] : List WantedPart)), (10, eS 2 eOfferedPart ([a1] : List OfferedPart))]) (ob' := [some (.row 2 [.agg [vt a0.Name, eS 2 eRange a0.Ranges]]), some (.row 2 [.agg [vt a1.Name, eS 1 vi a1.Sizes]]), none, none]) rfl (frzs_cons rfl frzs_nil) (.cons (.refl _) (.cons (.refl _) (.cons (.refl _) (.cons (.own rfl (Nat.le_of_ble_eq_true rfl)) .nil)))) rfl) ?_
 obtain ⟨y1, hy1, h⟩ := bs h
 refine jc 11 [8, 10] (restore_checkBoth_ok n ([a0] : List WantedPart) ([a1] : List OfferedPart) y1 hy1) ?_
 refine jk 1 (.d (.k2 (.i 6 (vi y1) .n))) ?_
 refine sk (.k3 (.i 13 (vb (y1 != (0 : Int))) .n)) ?_
 refine tc h (fun c1 h => ?_) (fun c1 h => ?_)
 ·refine sk (.i 4 (vb false) (.i 5 (vi y1) .n)) ?_
  refine q3 ?_
  have h := si h
  subst h
  exact DoneS.ret (S' := ⟨[(4, vb false), (5, vi y1)], []⟩) (sc [] (by decide) (by kernel_rfl) ObRen.nil rfl rfl) rfl rfl
 refine q2 ?_
 refine sj ?_
 refine rk 2 (.i 15 (.agg [vt a0.Name, eS 2 eRange a0.Ranges]) (.i 16 (.agg [vt a1.Name, eS 1 vi a1.Sizes]) .n)) ?_
 obtain ⟨y2, hy2, h⟩ := bs h
 refine jc 17 [15, 16] (restore_fits_ok n a0 a1 y2 hy2) ?_
 refine jk 2 (.i 4 (vb y2) (.i 5 (vi 0) .n)) ?_
 refine q3 ?_
 have h := si h
 subst h
 exact DoneS.ret (S' := ⟨[(4, vb y2), (5, vi 0)], []⟩) (sc [] (by decide) (by kernel_rfl) ObRen.nil rfl rfl) rfl rfl
theorem math_bits_Mul64_ok (n : Nat) (a0 : Int) (a1 : Int) (r : Unit) (h : math_bits_Mul64 n a0 a1 = some r) : FnL Tryz.prog 203 [vk .u64 a0, vk .u64 a1] [] (.tup [vk .u64 (IntKind.u64.wrap ((IntKind.u64.wrap ((IntKind.u64.wrap ((Int.fdiv a0 (2 ^ (min 32 64))) * (Int.fdiv a1 (2 ^ (min 32 64))))) + (Int.fdiv (IntKind.u64.wrap ((IntKind.u64.wrap ((Int.fdiv a0 (2 ^ (min 32 64))) * (iAnd .u64 a1 4294967295))) + (Int.fdiv (IntKind.u64.wrap ((iAnd .u64 a0 4294967295) * (iAnd .u64 a1 4294967295))) (2 ^ (min 32 64))))) (2 ^ (min 32 64))))) + (Int.fdiv (IntKind.u64.wrap ((iAnd .u64 (IntKind.u64.wrap ((IntKind.u64.wrap ((Int.fdiv a0 (2 ^ (min 32 64))) * (iAnd .u64 a1 4294967295))) + (Int.fdiv (IntKind.u64.wrap ((iAnd .u64 a0 4294967295) * (iAnd .u64 a1 4294967295))) (2 ^ (min 32 64))))) 4294967295) + (IntKind.u64.wrap ((iAnd .u64 a0 4294967295) * (Int.fdiv a1 (2 ^ (min 32 64))))))) (2 ^ (min 32 64))))), vk .u64 (IntKind.u64.wrap (a0 * a1))]) [] := by
 dsimp only [math_bits_Mul64] at h
 refine fo [4, 5] Tryz.call203 Tryz.func203 rfl ?_
 refine sk .a ?_
 refine sk (.k2 (.i 6 (vk .u64 (iAnd .u64 a0 4294967295)) .n)) ?_
 refine sk (.k3 (.i 7 (vk .u64 (Int.fdiv a0 (2 ^ (min 32 64)))) .n)) ?_
 refine sk (.k4 (.i 8 (vk .u64 (iAnd .u64 a1 4294967295)) .n)) ?_
 refine sk (.k4 (.k (.i 9 (vk .u64 (Int.fdiv a1 (2 ^ (min 32 64)))) .n))) ?_
 refine sk (.k4 (.k2 (.i 10 (vk .u64 (IntKind.u64.wrap ((iAnd .u64 a0 4294967295) * (iAnd .u64 a1 4294967295)))) .n))) ?_
 refine sk (.k4 (.d (.k (.i 11 (vk .u64 (IntKind.u64.wrap ((IntKind.u64.wrap ((Int.fdiv a0 (2 ^ (min 32 64))) * (iAnd .u64 a1 4294967295))) + (Int.fdiv (IntKind.u64.wrap ((iAnd .u64 a0 4294967295) * (iAnd .u64 a1 4294967295))) (2 ^ (min 32 64)))))) .n)))) ?_
 refine sk (.k4 (.k2 (.i 12 (vk .u64 (iAnd .u64 (IntKind.u64.wrap ((IntKind.u64.wrap ((Int.fdiv a0 (2 ^ (min 32 64))) * (iAnd .u64 a1 4294967295))) + (Int.fdiv (IntKind.u64.wrap ((iAnd .u64 a0 4294967295) * (iAnd .u64 a1 4294967295))) (2 ^ (min 32 64))))) 4294967295)) .n))) ?_
 refine sk (.k4 (.k (.d (.k (.i 13 (vk .u64 (Int.fdiv (IntKind.u64.wrap ((IntKind.u64.wrap ((Int.fdiv a0 (2 ^ (min 32 64))) * (iAnd .u64 a1 4294967295))) + (Int.fdiv (IntKind.u64.wrap ((iAnd .u64 a0 4294967295) * (iAnd .u64 a1 4294967295))) (2 ^ (min 32 64))))) (2 ^ (min 32 64)))) .n))))) ?_
 refine sk (.k2 (.d (.k2 (.d (.k (.i 12 (vk .u64 (IntKind.u64.wrap ((iAnd .u64 (IntKind.u64.wrap ((IntKind.u64.wrap ((Int.fdiv a0 (2 ^ (min 32 64))) * (iAnd .u64 a1 4294967295))) + (Int.fdiv (IntKind.u64.wrap ((iAnd .u64 a0 4294967295) * (iAnd .u64 a1 4294967295))) (2 ^ (min 32 64))))) 4294967295) + (IntKind.u64.wrap ((iAnd .u64 a0 4294967295) * (Int.fdiv a1 (2 ^ (min 32 64)))))))) .n)))))) ?_
 refine sk (.k2 (.i 4 (vk .u64 (IntKind.u64.wrap ((IntKind.u64.wrap ((IntKind.u64.wrap ((Int.fdiv a0 (2 ^ (min 32 64))) * (Int.fdiv a1 (2 ^ (min 32 64))))) + (Int.fdiv (IntKind.u64.wrap ((IntKind.u64.wrap ((Int.fdiv a0 (2 ^ (min 32 64))) * (iAnd .u64 a1 4294967295))) + (Int.fdiv (IntKind.u64.wrap ((iAnd .u64 a0 4294967295) * (iAnd .u64 a1 4294967295))) (2 ^ (min 32 64))))) (2 ^ (min 32 64))))) + (Int.fdiv (IntKind.u64.wrap ((iAnd .u64 (IntKind.u64.wrap ((IntKind.u64.wrap ((Int.fdiv a0 (2 ^ (min 32 64))) * (iAnd .u64 a1 4294967295))) + (Int.fdiv (IntKind.u64.wrap ((iAnd .u64 a0 4294967295) * (iAnd .u64 a1 4294967295))) (2 ^ (min 32 64))))) 4294967295) + (IntKind.u64.wrap ((iAnd .u64 a0 4294967295) * (Int.fdiv a1 (2 ^ (min 32 64))))))) (2 ^ (min 32 64)))))) .n)) ?_
 refine sk (.d2 (.k (.i 5 (vk .u64 (IntKind.u64.wrap (a0 * a1))) .n))) ?_
 refine q3 ?_
 have h := si h
 subst h
 exact DoneS.ret Sees.refl rfl rfl
theorem math_bits_Mul_ok (n : Nat) (a0 : Int) (a1 : Int) (r : Unit) (h : math_bits_Mul n a0 a1 = some r) : FnL Tryz.prog 177 [vk .u64 a0, vk .u64 a1] [] (.tup [vk .u64 (IntKind.u64.wrap ((IntKind.u64.wrap ((IntKind.u64.wrap ((Int.fdiv a0 (2 ^ (min 32 64))) * (Int.fdiv a1 (2 ^ (min 32 64))))) + (Int.fdiv (IntKind.u64.wrap ((IntKind.u64.wrap ((Int.fdiv a0 (2 ^ (min 32 64))) * (iAnd .u64 a1 4294967295))) + (Int.fdiv (IntKind.u64.wrap ((iAnd .u64 a0 4294967295) * (iAnd .u64 a1 4294967295))) (2 ^ (min 32 64))))) (2 ^ (min 32 64))))) + (Int.fdiv (IntKind.u64.wrap ((iAnd .u64 (IntKind.u64.wrap ((IntKind.u64.wrap ((Int.fdiv a0 (2 ^ (min 32 64))) * (iAnd .u64 a1 4294967295))) + (Int.fdiv (IntKind.u64.wrap ((iAnd .u64 a0 4294967295) * (iAnd .u64 a1 4294967295))) (2 ^ (min 32 64))))) 4294967295) + (IntKind.u64.wrap ((iAnd .u64 a0 4294967295) * (Int.fdiv a1 (2 ^ (min 32 64))))))) (2 ^ (min 32 64))))), vk .u64 (IntKind.u64.wrap (a0 * a1))]) [] := by
 dsimp only [math_bits_Mul] at h
 refine fo [4, 5] Tryz.call177 Tryz.func177 rfl ?_
 refine sk .a ?_
 refine q1 ?_
 refine TriE.cond (b := false) rfl (fun c1 => ?_) (fun c1 => ?_)
 ·cases c1
 refine q2 ?_
 refine sj ?_
 refine rk 2 (.i 23 (vk .u64 a0) (.i 24 (vk .u64 a1) .n)) ?_
 obtain ⟨y1, hy1, h⟩ := bs h
 refine jc 25 [23, 24] (math_bits_Mul64_ok n a0 a1 y1 hy1) ?_
 refine jk 5 (.i 8 (vk .u64 (IntKind.u64.wrap ((IntKind.u64.wrap ((IntKind.u64.wrap ((Int.fdiv a0 (2 ^ (min 32 64))) * (Int.fdiv a1 (2 ^ (min 32 64))))) + (Int.fdiv (IntKind.u64.wrap ((IntKind.u64.wrap ((Int.fdiv a0 (2 ^ (min 32 64))) * (iAnd .u64 a1 4294967295))) + (Int.fdiv (IntKind.u64.wrap ((iAnd .u64 a0 4294967295) * (iAnd .u64 a1 4294967295))) (2 ^ (min 32 64))))) (2 ^ (min 32 64))))) + (Int.fdiv (IntKind.u64.wrap ((iAnd .u64 (IntKind.u64.wrap ((IntKind.u64.wrap ((Int.fdiv a0 (2 ^ (min 32 64))) * (iAnd .u64 a1 4294967295))) + (Int.fdiv (IntKind.u64.wrap ((iAnd .u64 a0 4294967295) * (iAnd .u64 a1 4294967295))) (2 ^ (min 32 64))))) 4294967295) + (IntKind.u64.wrap ((iAnd .u64 a0 4294967295) * (Int.fdiv a1 (2 ^ (min 32 64))))))) (2 ^ (min 32 64)))))) (.i 9 (vk .u64 (IntKind.u64.wrap (a0 * a1))) .n)) ?_
 refine sk (.i 4 (vk .u64 (IntKind.u64.wrap ((IntKind.u64.wrap ((IntKind.u64.wrap ((Int.fdiv a0 (2 ^ (min 32 64))) * (Int.fdiv a1 (2 ^ (min 32 64))))) + (Int.fdiv (IntKind.u64.wrap ((IntKind.u64.wrap ((Int.fdiv a0 (2 ^ (min 32 64))) * (iAnd .u64 a1 4294967295))) + (Int.fdiv (IntKind.u64.wrap ((iAnd .u64 a0 4294967295) * (iAnd .u64 a1 4294967295))) (2 ^ (min 32 64))))) (2 ^ (min 32 64))))) + (Int.fdiv (IntKind.u64.wrap ((iAnd .u64 (IntKind.u64.wrap ((IntKind.u64.wrap ((Int.fdiv a0 (2 ^ (min 32 64))) * (iAnd .u64 a1 4294967295))) + (Int.fdiv (IntKind.u64.wrap ((iAnd .u64 a0 4294967295) * (iAnd .u64 a1 4294967295))) (2 ^ (min 32 64))))) 4294967295) + (IntKind.u64.wrap ((iAnd .u64 a0 4294967295) * (Int.fdiv a1 (2 ^ (min 32 64))))))) (2 ^ (min 32 64)))))) (.i 5 (vk .u64 (IntKind.u64.wrap (a0 * a1))) .n)) ?_
 refine q3 ?_
 have h := si h
 subst h
 exact DoneS.ret Sees.refl rfl rfl
set_option maxHeartbeats 1000000 in
theorem slices_Repeat_int_ok (n : Nat) (a0 : List Int) (a1 : Int) (r : (List Int)) (h : slices_Repeat_int n a0 a1 = some r) : FnL Tryz.prog 131 [.own 0 0 a0.length, vi a1] [some (.row 1 (List.map vi a0))] (.own 1 0 ((List.replicate ((IntKind.u64.wrap ((IntKind.u64.wrap (a0.length : Int)) * (IntKind.u64.wrap a1))).toNat) (0 : Int)).length)) [some (.row 1 (List.map vi a0)), some (.row 1 (List.map vi r))] := by
 dsimp only [slices_Repeat_int] at h
 refine fob [4] Tryz.call131 Tryz.func131 rfl (.cons rfl .nil) ?_
 refine sk .a ?_
 refine q1 ?_
 refine sk (.k2 (.i 10 (vb (decide (a1 < (0 : Int)))) .n)) ?_
 refine tc h (fun c1 h => ?_) (fun c1 h => ?_)
 ·refine q6 ?_
  cases h
 refine q2 ?_
 refine sj ?_
 refine rk 5 (.k (.i 15 (vk .u64 (IntKind.u64.wrap (a0.length : Int))) (.i 17 (vk .u64 (IntKind.u64.wrap a1)) .n))) ?_
 obtain ⟨y1, hy1, h⟩ := bs h
 refine jc 18 [15, 17] (math_bits_Mul_ok n (IntKind.u64.wrap (a0.length : Int)) (IntKind.u64.wrap a1) y1 hy1) ?_
 refine jk 5 (.d (.k (.i 5 (vk .u64 (IntKind.u64.wrap ((IntKind.u64.wrap ((IntKind.u64.wrap ((Int.fdiv (IntKind.u64.wrap (a0.length : Int)) (2 ^ (min 32 64))) * (Int.fdiv (IntKind.u64.wrap a1) (2 ^ (min 32 64))))) + (Int.fdiv (IntKind.u64.wrap ((IntKind.u64.wrap ((Int.fdiv (IntKind.u64.wrap (a0.length : Int)) (2 ^ (min 32 64))) * (iAnd .u64 (IntKind.u64.wrap a1) 4294967295))) + (Int.fdiv (IntKind.u64.wrap ((iAnd .u64 (IntKind.u64.wrap (a0.length : Int)) 4294967295) * (iAnd .u64 (IntKind.u64.wrap a1) 4294967295))) (2 ^ (min 32 64))))) (2 ^ (min 32 64))))) + (Int.fdiv (IntKind.u64.wrap ((iAnd .u64 (IntKind.u64.wrap ((IntKind.u64.wrap ((Int.fdiv (IntKind.u64.wrap (a0.length : Int)) (2 ^ (min 32 64))) * (iAnd .u64 (IntKind.u64.wrap a1) 4294967295))) + (Int.fdiv (IntKind.u64.wrap ((iAnd .u64 (IntKind.u64.wrap (a0.length : Int)) 4294967295) * (iAnd .u64 (IntKind.u64.wrap a1) 4294967295))) (2 ^ (min 32 64))))) 4294967295) + (IntKind.u64.wrap ((iAnd .u64 (IntKind.u64.wrap (a0.length : Int)) 4294967295) * (Int.fdiv (IntKind.u64.wrap a1) (2 ^ (min 32 64))))))) (2 ^ (min 32 64)))))) (.i 6 (vk .u64 (IntKind.u64.wrap ((IntKind.u64.wrap (a0.length : Int)) * (IntKind.u64.wrap a1)))) .n)))) ?_
 refine q1 ?_
 refine sj ?_
 refine rk 3 (.k (.d (.k (.i 23 (vb (decide ((0 : Int) < (IntKind.u64.wrap ((IntKind.u64.wrap ((IntKind.u64.wrap ((Int.fdiv (IntKind.u64.wrap (a0.length : Int)) (2 ^ (min 32 64))) * (Int.fdiv (IntKind.u64.wrap a1) (2 ^ (min 32 64))))) + (Int.fdiv (IntKind.u64.wrap ((IntKind.u64.wrap ((Int.fdiv (IntKind.u64.wrap (a0.length : Int)) (2 ^ (min 32 64))) * (iAnd .u64 (IntKind.u64.wrap a1) 4294967295))) + (Int.fdiv (IntKind.u64.wrap ((iAnd .u64 (IntKind.u64.wrap (a0.length : Int)) 4294967295) * (iAnd .u64 (IntKind.u64.wrap a1) 4294967295))) (2 ^ (min 32 64))))) (2 ^ (min 32 64))))) + (Int.fdiv (IntKind.u64.wrap ((iAnd .u64 (IntKind.u64.wrap ((IntKind.u64.wrap ((Int.fdiv (IntKind.u64.wrap (a0.length : Int)) (2 ^ (min 32 64))) * (iAnd .u64 (IntKind.u64.wrap a1) 4294967295))) + (Int.fdiv (IntKind.u64.wrap ((iAnd .u64 (IntKind.u64.wrap (a0.length : Int)) 4294967295) * (iAnd .u64 (IntKind.u64.wrap a1) 4294967295))) (2 ^ (min 32 64))))) 4294967295) + (IntKind.u64.wrap ((iAnd .u64 (IntKind.u64.wrap (a0.length : Int)) 4294967295) * (Int.fdiv (IntKind.u64.wrap a1) (2 ^ (min 32 64))))))) (2 ^ (min 32 64)))))))) .n)))) ?_
 refine gj (vk .u64 (IntKind.u64.wrap ((IntKind.u64.wrap (a0.length : Int)) * (IntKind.u64.wrap a1)))) 24 (.mov 6) 23 false rfl ?_
 refine gk (vb (decide ((9223372036854775807 : Int) < (IntKind.u64.wrap ((IntKind.u64.wrap (a0.length : Int)) * (IntKind.u64.wrap a1)))))) 25 (.bin .gtr false 24 (.c (.p (.int .u64 9223372036854775807)))) 23 false rfl (fun hg => (.cons hg (.cons rfl .nil))) ?_
 refine po 26 23 25 rfl rfl ?_
 refine jf (.d3 (.k2 (.i 26 (vb ((decide ((0 : Int) < (IntKind.u64.wrap ((IntKind.u64.wrap ((IntKind.u64.wrap ((Int.fdiv (IntKind.u64.wrap (a0.length : Int)) (2 ^ (min 32 64))) * (Int.fdiv (IntKind.u64.wrap a1) (2 ^ (min 32 64))))) + (Int.fdiv (IntKind.u64.wrap ((IntKind.u64.wrap ((Int.fdiv (IntKind.u64.wrap (a0.length : Int)) (2 ^ (min 32 64))) * (iAnd .u64 (IntKind.u64.wrap a1) 4294967295))) + (Int.fdiv (IntKind.u64.wrap ((iAnd .u64 (IntKind.u64.wrap (a0.length : Int)) 4294967295) * (iAnd .u64 (IntKind.u64.wrap a1) 4294967295))) (2 ^ (min 32 64))))) (2 ^ (min 32 64))))) + (Int.fdiv (IntKind.u64.wrap ((iAnd .u64 (IntKind.u64.wrap ((IntKind.u64.wrap ((Int.fdiv (IntKind.u64.wrap (a0.length : Int)) (2 ^ (min 32 64))) * (iAnd .u64 (IntKind.u64.wrap a1) 4294967295))) + (Int.fdiv (IntKind.u64.wrap ((iAnd .u64 (IntKind.u64.wrap (a0.length : Int)) 4294967295) * (iAnd .u64 (IntKind.u64.wrap a1) 4294967295))) (2 ^ (min 32 64))))) 4294967295) + (IntKind.u64.wrap ((iAnd .u64 (IntKind.u64.wrap (a0.length : Int)) 4294967295) * (Int.fdiv (IntKind.u64.wrap a1) (2 ^ (min 32 64))))))) (2 ^ (min 32 64))))))) || (decide ((9223372036854775807 : Int) < (IntKind.u64.wrap ((IntKind.u64.wrap (a0.length : Int)) * (IntKind.u64.wrap a1))))))) .n))) ?_
 refine tc h (fun c2 h => ?_) (fun c2 h => ?_)
 ·refine q6 ?_
  cases h
 refine q2 ?_
 refine sj ?_
 refine rk 1 (.k (.i 28 (vk .u64 (IntKind.u64.wrap ((IntKind.u64.wrap (a0.length : Int)) * (IntKind.u64.wrap a1)))) .n)) ?_
 obtain ⟨c3, h⟩ := ck h
 refine jo 29 (.conv .i64 28) (ok_conv64 rfl c3) ?_
 obtain ⟨c4, h⟩ := ck h
 obtain ⟨c5, h⟩ := ck h
 refine jx 30 (.mkslice 1 8 (.p (.int .i64 0)) 29 29) _ (ok_mkslice_n (e := vi) (v0 := (0 : Int)) (j := (IntKind.u64.wrap ((IntKind.u64.wrap (a0.length : Int)) * (IntKind.u64.wrap a1))).toNat) rfl rfl (nn_to c4) (nn_to c4) rfl rfl c5) rfl rfl ?_
 refine jk 1 (.d2 (.k (.i 7 (.own 1 0 ((List.replicate ((IntKind.u64.wrap ((IntKind.u64.wrap (a0.length : Int)) * (IntKind.u64.wrap a1))).toNat) (0 : Int)).length)) .n))) ?_
 refine sj ?_
 refine rk 2 (.d (.k (.i 31 (.own 1 0 ((List.replicate ((IntKind.u64.wrap ((IntKind.u64.wrap (a0.length : Int)) * (IntKind.u64.wrap a1))).toNat) (0 : Int)).length)) (.i 32 (.own 0 0 a0.length) .n)))) ?_
 obtain ⟨c6, h⟩ := ck h
 obtain ⟨c7, h⟩ := ck h
 refine RegJ.cpyM (d := some 33) (k := 1) (e := vi) (l := (List.replicate ((IntKind.u64.wrap ((IntKind.u64.wrap (a0.length : Int)) * (IntKind.u64.wrap a1))).toNat) (0 : Int))) (l2 := (List.take a0.length (List.drop 0 a0))) (nn := 1) (off := 0) (len := (List.replicate ((IntKind.u64.wrap ((IntKind.u64.wrap (a0.length : Int)) * (IntKind.u64.wrap a1))).toNat) (0 : Int)).length) (rd := [0]) (x := .t 31) (y := .t 32) (by kernel_rfl) rfl rfl rfl rfl (els_ow2 (e := vi) (l := a0) rfl rfl c7) (fun _ h => nomatch h) c6 ?_
 refine jq 1 [(7, .own 1 0 ((List.replicate ((IntKind.u64.wrap ((IntKind.u64.wrap (a0.length : Int)) * (IntKind.u64.wrap a1))).toNat) (0 : Int)).length)), (8, vi ((Nat.min (List.take a0.length (List.drop 0 a0)).length ((List.replicate ((IntKind.u64.wrap ((IntKind.u64.wrap (a0.length : Int)) * (IntKind.u64.wrap a1))).toNat) (0 : Int)).length) : Nat) : Int))] [some (.row 1 (List.map vi a0)), some (.row 1 (List.map vi (cpyP (List.replicate ((IntKind.u64.wrap ((IntKind.u64.wrap (a0.length : Int)) * (IntKind.u64.wrap a1))).toNat) (0 : Int)) 0 (List.take (Nat.min (List.take a0.length (List.drop 0 a0)).length ((List.replicate ((IntKind.u64.wrap ((IntKind.u64.wrap (a0.length : Int)) * (IntKind.u64.wrap a1))).toNat) (0 : Int)).length)) (List.take a0.length (List.drop 0 a0))))))] ?_
 refine TriE.seqK h (fun (v4 : (List Int)) => St.mk [(7, .own 1 0 ((List.replicate ((IntKind.u64.wrap ((IntKind.u64.wrap (a0.length : Int)) * (IntKind.u64.wrap a1))).toNat) (0 : Int)).length))] [some (.row 1 (List.map vi a0)), some (.row 1 (List.map vi v4))]) ?_ ?_
 ·rintro v4 h
  refine sk (.i 4 (.own 1 0 ((List.replicate ((IntKind.u64.wrap ((IntKind.u64.wrap (a0.length : Int)) * (IntKind.u64.wrap a1))).toNat) (0 : Int)).length)) .n) ?_
  refine q3 ?_
  have h := si h
  subst h
  exact DoneS.ret Sees.refl rfl rfl
 intro k1 h
 refine q4 ?_
 refine ts (.k (.i 8 (vi (((Nat.min (List.take a0.length (List.drop 0 a0)).length ((List.replicate ((IntKind.u64.wrap ((IntKind.u64.wrap (a0.length : Int)) * (IntKind.u64.wrap a1))).toNat) (0 : Int)).length)) : Nat) : Int)) .n)) ?_
 refine TriE.loopN h (fun (t : Nat × (List Int)) => match t with | (v2, v3) => St.mk [(7, .own 1 0 ((List.replicate ((IntKind.u64.wrap ((IntKind.u64.wrap (a0.length : Int)) * (IntKind.u64.wrap a1))).toNat) (0 : Int)).length)), (8, vi v2)] [some (.row 1 (List.map vi a0)), some (.row 1 (List.map vi v3))]) rfl ?_
 clear h
 rintro back ⟨v2, v3⟩ h
 dsimp only [slices_Repeat_int_L1] at h
 refine q1 ?_
 refine sj ?_
 refine rk 3 (.k2 (.i 34 (vi v2) (.i 36 (vi (((List.replicate ((IntKind.u64.wrap ((IntKind.u64.wrap (a0.length : Int)) * (IntKind.u64.wrap a1))).toNat) (0 : Int)).length : Nat) : Int)) .n))) ?_
 refine jo 37 (.bin .lss false 34 36) (n_lss (i := v2) (j := (List.replicate ((IntKind.u64.wrap ((IntKind.u64.wrap (a0.length : Int)) * (IntKind.u64.wrap a1))).toNat) (0 : Int)).length) rfl rfl) ?_
 refine jf (.d (.k2 (.i 37 (vb (decide (v2 < ((List.replicate ((IntKind.u64.wrap ((IntKind.u64.wrap (a0.length : Int)) * (IntKind.u64.wrap a1))).toNat) (0 : Int)).length)))) .n))) ?_
 refine tc h (fun c8 h => ?_) (fun c8 h => ?_)
 ·refine q2 ?_
  refine q4 ?_
  refine ts (.k2 .n) ?_
  refine TriE.draw (by kernel_rfl) ?_
  refine dk 3 (.i 40 (vi v2) (.i 39 (.own 1 0 ((List.replicate ((IntKind.u64.wrap ((IntKind.u64.wrap (a0.length : Int)) * (IntKind.u64.wrap a1))).toNat) (0 : Int)).length)) (.i 38 (vi v2) .a))) ?_
  refine dp 41 (.slc 1 39 (some 40) none none) (ok_slco_lo0 (i := v2) rfl rfl rfl rfl c8) ?_
  refine dk 2 (.i 43 (vi v2) (.i 42 (.own 1 0 ((List.replicate ((IntKind.u64.wrap ((IntKind.u64.wrap (a0.length : Int)) * (IntKind.u64.wrap a1))).toNat) (0 : Int)).length)) .a)) ?_
  obtain ⟨c9, h⟩ := ck h
  refine dp 44 (.slc 1 42 none (some 43) none) (ok_slco_hi (j := v2) rfl rfl rfl rfl c9) ?_
  obtain ⟨c10, h⟩ := ck h
  obtain ⟨c11, h⟩ := ck h
  refine RegD.op (OpD.cpyM (k := 1) (e := vi) (l := v3) (l2 := (List.take v2 (List.drop 0 v3))) (nn := 1) (off := v2) (len := ((List.replicate ((IntKind.u64.wrap ((IntKind.u64.wrap (a0.length : Int)) * (IntKind.u64.wrap a1))).toNat) (0 : Int)).length) - v2) (rd := [1]) (x := .t 41) (y := .t 44) (by kernel_rfl) (cy (I0 45 (.copy 1 41 44))) rfl rfl rfl rfl rfl (els_ow2 (e := vi) (l := v3) rfl rfl c11) (fun _ h => nomatch h) c10) ?_
  obtain ⟨c12, h⟩ := ck h
  refine dp 46 (.bin .add false 38 45) (r_addn (i := v2) (j := Nat.min (List.take v2 (List.drop 0 v3)).length (((List.replicate ((IntKind.u64.wrap ((IntKind.u64.wrap (a0.length : Int)) * (IntKind.u64.wrap a1))).toNat) (0 : Int)).length) - v2)) rfl rfl c12) ?_
  refine RegD.run 1 [(8, vi ((v2 + (Nat.min (List.take v2 (List.drop 0 v3)).length (((List.replicate ((IntKind.u64.wrap ((IntKind.u64.wrap (a0.length : Int)) * (IntKind.u64.wrap a1))).toNat) (0 : Int)).length) - v2)) : Nat) : Int)), (46, vi ((v2 + (Nat.min (List.take v2 (List.drop 0 v3)).length (((List.replicate ((IntKind.u64.wrap ((IntKind.u64.wrap (a0.length : Int)) * (IntKind.u64.wrap a1))).toNat) (0 : Int)).length) - v2)) : Nat) : Int)), (45, vi ((Nat.min (List.take v2 (List.drop 0 v3)).length (((List.replicate ((IntKind.u64.wrap ((IntKind.u64.wrap (a0.length : Int)) * (IntKind.u64.wrap a1))).toNat) (0 : Int)).length) - v2) : Nat) : Int)), (44, .own 1 0 v2), (43, vi v2), (42, .own 1 0 ((List.replicate ((IntKind.u64.wrap ((IntKind.u64.wrap (a0.length : Int)) * (IntKind.u64.wrap a1))).toNat) (0 : Int)).length)), (41, .own 1 v2 (((List.replicate ((IntKind.u64.wrap ((IntKind.u64.wrap (a0.length : Int)) * (IntKind.u64.wrap a1))).toNat) (0 : Int)).length) - v2)), (40, vi v2), (39, .own 1 0 ((List.replicate ((IntKind.u64.wrap ((IntKind.u64.wrap (a0.length : Int)) * (IntKind.u64.wrap a1))).toNat) (0 : Int)).length)), (38, vi v2), (7, .own 1 0 ((List.replicate ((IntKind.u64.wrap ((IntKind.u64.wrap (a0.length : Int)) * (IntKind.u64.wrap a1))).toNat) (0 : Int)).length)), (8, vi v2)] [some (.row 1 (List.map vi a0)), some (.row 1 (List.map vi (cpyP v3 v2 (List.take (Nat.min (List.take v2 (List.drop 0 v3)).length (((List.replicate ((IntKind.u64.wrap ((IntKind.u64.wrap (a0.length : Int)) * (IntKind.u64.wrap a1))).toNat) (0 : Int)).length) - v2)) (List.take v2 (List.drop 0 v3)))))), none, none, none, none, none, none, none, none, none, none] (by kernel_rfl) ?_
  refine dfi (.d4 (.d4 (.d2 (.k (.i 8 (vi ((v2 + (Nat.min (List.take v2 (List.drop 0 v3)).length (((List.replicate ((IntKind.u64.wrap ((IntKind.u64.wrap (a0.length : Int)) * (IntKind.u64.wrap a1))).toNat) (0 : Int)).length) - v2)) : Nat) : Int)) .n))))) [0, 1] (obRen_row vi_frz rfl (obRen_row vi_frz rfl .nil)) ?_
  exact Vs.intro sy ⟨(v2 + (Nat.min (List.take v2 (List.drop 0 v3)).length (((List.replicate ((IntKind.u64.wrap ((IntKind.u64.wrap (a0.length : Int)) * (IntKind.u64.wrap a1))).toNat) (0 : Int)).length) - v2)), (cpyP v3 v2 (List.take (Nat.min (List.take v2 (List.drop 0 v3)).length (((List.replicate ((IntKind.u64.wrap ((IntKind.u64.wrap (a0.length : Int)) * (IntKind.u64.wrap a1))).toNat) (0 : Int)).length) - v2)) (List.take v2 (List.drop 0 v3))))), rfl, h⟩
 refine q5 ?_
 exact Vs.intro sy ⟨v3, rfl, h⟩
set_option maxHeartbeats 1000000 in
theorem restore_matching_grow_ok_ (n : Nat) : ∀ (fu : Nat) (a0 : List (List Bool)) (a1 : List Int) (a2 : Nat) (a3 : Nat) (a4 : List Int) (a5 : Nat) (a6 : Nat) (a7 : Int) (a8 : List Bool) (r : (List Bool) × (List Int) × (List Int) × Bool), loopN (restore_matching_grow_F n) fu (a0, a1, a2, a3, a4, a5, a6, a7, a8) = some r → FnL Tryz.prog 132 [.ptr 0 0 0, vi a7, .own 4 0 a8.length] [some (.row 3 [.agg [.own 1 0 a0.length, .own 2 a2 a3, .own 3 a5 a6]]), some (.row 1 (List.map (eS 1 vb) a0)), some (.row 1 (List.map vi a1)), some (.row 1 (List.map vi a4)), some (.row 1 (List.map vb a8))] (vb r.2.2.2) [some (.row 3 [.agg [.own 1 0 a0.length, .own 2 a2 a3, .own 3 a5 a6]]), some (.row 1 (List.map (eS 1 vb) a0)), some (.row 1 (List.map vi r.2.2.1)), some (.row 1 (List.map vi r.2.1)), some (.row 1 (List.map vb r.1))] := by
  intro fu
  induction fu with
  | zero =>
    intro a0 a1 a2 a3 a4 a5 a6 a7 a8 r h
    cases h
  | succ fu ih =>
    intro a0 a1 a2 a3 a4 a5 a6 a7 a8 r h
    replace h : restore_matching_grow_F n (loopN (restore_matching_grow_F n) fu) (a0, a1, a2, a3, a4, a5, a6, a7, a8) = some r := h
    dsimp only [restore_matching_grow_F] at h
    refine FnL.ofS (ts := [6]) Tryz.call132 Tryz.func132 rfl rfl (Nat.le_of_ble_eq_true rfl) (Nat.le_of_ble_eq_true rfl) (hall_of (.cons rfl (.cons rfl (.cons rfl (.cons rfl (.cons rfl .nil)))))) ?_
    show TriE _ _ _ _ _ (St.mk [(0, .ptr 0 0 0), (1, vi a7), (2, .own 4 0 a8.length)] [some (.row 3 [.agg [.own 1 0 a0.length, .own 2 a2 a3, .own 3 a5 a6]]), some (.row 1 (List.map (eS 1 vb) a0)), some (.row 1 (List.map vi a1)), some (.row 1 (List.map vi a4)), some (.row 1 (List.map vb a8))]) _
    refine TriE.seq ?_
    refine TriE.run [(0, .ptr 0 0 0), (1, vi a7), (2, .own 4 0 a8.length)] [some (.row 3 [.agg [.own 1 0 a0.length, .own 2 a2 a3, .own 3 a5 a6]]), some (.row 1 (List.map (eS 1 vb) a0)), some (.row 1 (List.map vi a1)), some (.row 1 (List.map vi a4)), some (.row 1 (List.map vb a8))] (by kernel_rfl) ?_
    refine TriE.seqK h (fun (t : (List Bool) × (List Int) × (List Int)) => match t with | (v23, v24, v25) => St.mk [] [some (.row 3 [.agg [.own 1 0 a0.length, .own 2 a2 a3, .own 3 a5 a6]]), some (.row 1 (List.map (eS 1 vb) a0)), some (.row 1 (List.map vi v25)), some (.row 1 (List.map vi v24)), some (.row 1 (List.map vb v23))]) ?_ ?_
    · rintro ⟨v23, v24, v25⟩ h
      show TriE _ _ _ _ _ (St.mk [] [some (.row 3 [.agg [.own 1 0 a0.length, .own 2 a2 a3, .own 3 a5 a6]]), some (.row 1 (List.map (eS 1 vb) a0)), some (.row 1 (List.map vi v25)), some (.row 1 (List.map vi v24)), some (.row 1 (List.map vb v23))]) _
      refine TriE.seq ?_
      refine TriE.run [(6, vb false)] [some (.row 3 [.agg [.own 1 0 a0.length, .own 2 a2 a3, .own 3 a5 a6]]), some (.row 1 (List.map (eS 1 vb) a0)), some (.row 1 (List.map vi v25)), some (.row 1 (List.map vi v24)), some (.row 1 (List.map vb v23))] (by kernel_rfl) ?_
      refine TriE.ret ?_
      have h := Option.some.inj h
      subst h
      exact DoneS.ret (S' := ⟨[(6, vb false)], [some (.row 3 [.agg [.own 1 0 a0.length, .own 2 a2 a3, .own 3 a5 a6]]), some (.row 1 (List.map (eS 1 vb) a0)), some (.row 1 (List.map vi v25)), some (.row 1 (List.map vi v24)), some (.row 1 (List.map vb v23))]⟩) Sees.refl rfl rfl
    intro k3 h
    refine TriE.seq ?_
    refine TriE.regJ ?_
    refine RegJ.run 5 [(0, .ptr 0 0 0), (1, vi a7), (2, .own 4 0 a8.length), (12, .own 1 0 a0.length), (13, vi a7)] [some (.row 3 [.agg [.own 1 0 a0.length, .own 2 a2 a3, .own 3 a5 a6]]), some (.row 1 (List.map (eS 1 vb) a0)), some (.row 1 (List.map vi a1)), some (.row 1 (List.map vi a4)), some (.row 1 (List.map vb a8))] (by kernel_rfl) ?_
    obtain ⟨c1, h⟩ := chk_some h
    refine jv (.ptr 1 a7.toNat 0) (cz (I0 14 (.iaddr 1 (.t 12) (.t 13))) (by kernel_rfl)) (ok_iaddr_o0 (j := a7.toNat) rfl rfl rfl (inB_to c1) (inB_lt c1)) rfl ?_
    obtain ⟨c2, h⟩ := chk_some h
    refine jv (eS 1 vb (ix a0 a7.toNat)) (cz (I0 15 (.load false 1 (.t 14))) (by kernel_rfl)) (ok_load_pm (l := a0) (e := (eS 1 vb)) (v := eS 1 vb (ix a0 a7.toNat)) rfl rfl c2 rfl) rfl ?_
    refine jv (vi (((ix a0 a7.toNat).length : Nat) : Int)) (cz (I0 16 (.len 0 (.t 15))) (by kernel_rfl)) (ok_len_m rfl) rfl ?_
    refine jrd 1 [(0, .ptr 0 0 0), (1, vi a7), (2, .own 4 0 a8.length), (15, eS 1 vb (ix a0 a7.toNat)), (16, vi (((ix a0 a7.toNat).length : Nat) : Int)), (17, vi 0)] [some (.row 3 [.agg [.own 1 0 a0.length, .own 2 a2 a3, .own 3 a5 a6]]), some (.row 1 (List.map (eS 1 vb) a0)), some (.row 1 (List.map vi a1)), some (.row 1 (List.map vi a4)), some (.row 1 (List.map vb a8))] (by kernel_rfl) rfl ?_
    refine TriE.block ?_
    refine TriE.sees (S' := ⟨[(0, .ptr 0 0 0), (1, vi a7), (2, .own 4 0 a8.length), (15, eS 1 vb (ix a0 a7.toNat)), (16, vi (((ix a0 a7.toNat).length : Nat) : Int)), (17, vi ((0 : Nat) : Int))], [some (.row 3 [.agg [.own 1 0 a0.length, .own 2 a2 a3, .own 3 a5 a6]]), some (.row 1 (List.map (eS 1 vb) a0)), some (.row 1 (List.map vi a1)), some (.row 1 (List.map vi a4)), some (.row 1 (List.map vb a8))]⟩) (sl (by kernel_rfl)) ?_
    refine TriE.loopN h (fun (t : Nat × (List Bool) × (List Int) × (List Int)) => match t with | (v10, v11, v12, v13) => St.mk [(0, .ptr 0 0 0), (1, vi a7), (2, .own 4 0 v11.length), (15, eS 1 vb (ix a0 a7.toNat)), (16, vi (((ix a0 a7.toNat).length : Nat) : Int)), (17, vi ((v10 : Nat) : Int))] [some (.row 3 [.agg [.own 1 0 a0.length, .own 2 a2 a3, .own 3 a5 a6]]), some (.row 1 (List.map (eS 1 vb) a0)), some (.row 1 (List.map vi v13)), some (.row 1 (List.map vi v12)), some (.row 1 (List.map vb v11))]) rfl ?_
    clear h
    rintro back ⟨v10, v11, v12, v13⟩ h
    dsimp only [restore_matching_grow_L1] at h
    show TriE _ _ _ _ _ (St.mk [(0, .ptr 0 0 0), (1, vi a7), (2, .own 4 0 v11.length), (15, eS 1 vb (ix a0 a7.toNat)), (16, vi (((ix a0 a7.toNat).length : Nat) : Int)), (17, vi ((v10 : Nat) : Int))] [some (.row 3 [.agg [.own 1 0 a0.length, .own 2 a2 a3, .own 3 a5 a6]]), some (.row 1 (List.map (eS 1 vb) a0)), some (.row 1 (List.map vi v13)), some (.row 1 (List.map vi v12)), some (.row 1 (List.map vb v11))]) _
    refine TriE.seq ?_
    refine TriE.regJ ?_
    refine jv (vb (decide (v10 < ((ix a0 a7.toNat).length)))) (cz (I0 18 (.bin .lss false (.t 17) (.t 16))) (by kernel_rfl)) (n_lss (i := v10) (j := (ix a0 a7.toNat).length) rfl rfl) rfl ?_
    refine jd [(0, .ptr 0 0 0), (1, vi a7), (2, .own 4 0 v11.length), (15, eS 1 vb (ix a0 a7.toNat)), (16, vi (((ix a0 a7.toNat).length : Nat) : Int)), (17, vi ((v10 : Nat) : Int)), (18, vb (decide (v10 < ((ix a0 a7.toNat).length))))] (by kernel_rfl) rfl ?_
    refine TriE.seq ?_
    refine TriE.cond (b := decide (v10 < ((ix a0 a7.toNat).length))) rfl (fun c3 => ?_) (fun c3 => ?_)
    · have h := cond_t h c3
      refine TriE.skip ?_
      refine TriE.seqK h (fun (t : (List Bool) × (List Int) × (List Int)) => match t with | (v20, v21, v22) => St.mk [(0, .ptr 0 0 0), (1, vi a7), (2, .own 4 0 v20.length), (15, eS 1 vb (ix a0 a7.toNat)), (16, vi (((ix a0 a7.toNat).length : Nat) : Int)), (17, vi ((v10 : Nat) : Int))] [some (.row 3 [.agg [.own 1 0 a0.length, .own 2 a2 a3, .own 3 a5 a6]]), some (.row 1 (List.map (eS 1 vb) a0)), some (.row 1 (List.map vi v22)), some (.row 1 (List.map vi v21)), some (.row 1 (List.map vb v20))]) ?_ ?_
      · rintro ⟨v20, v21, v22⟩ h
        show TriE _ _ _ _ _ (St.mk [(0, .ptr 0 0 0), (1, vi a7), (2, .own 4 0 v20.length), (15, eS 1 vb (ix a0 a7.toNat)), (16, vi (((ix a0 a7.toNat).length : Nat) : Int)), (17, vi ((v10 : Nat) : Int))] [some (.row 3 [.agg [.own 1 0 a0.length, .own 2 a2 a3, .own 3 a5 a6]]), some (.row 1 (List.map (eS 1 vb) a0)), some (.row 1 (List.map vi v22)), some (.row 1 (List.map vi v21)), some (.row 1 (List.map vb v20))]) _
        refine TriE.regJ ?_
        obtain ⟨c18, h⟩ := chk_some h
        refine jv (vi ((v10 + 1 : Nat) : Int)) (cz (I0 67 (.bin .add false (.t 17) (.c (.p (.int .i64 1))))) (by kernel_rfl)) (r_addn (i := v10) (j := 1) rfl rfl c18) rfl ?_
        refine jrd 1 [(0, .ptr 0 0 0), (1, vi a7), (2, .own 4 0 v20.length), (15, eS 1 vb (ix a0 a7.toNat)), (16, vi (((ix a0 a7.toNat).length : Nat) : Int)), (17, vi ((v10 + 1 : Nat) : Int))] [some (.row 3 [.agg [.own 1 0 a0.length, .own 2 a2 a3, .own 3 a5 a6]]), some (.row 1 (List.map (eS 1 vb) a0)), some (.row 1 (List.map vi v22)), some (.row 1 (List.map vi v21)), some (.row 1 (List.map vb v20))] (by kernel_rfl) rfl ?_
        exact Vs.intro (sl (by kernel_rfl)) ⟨(v10 + 1, v20, v21, v22), rfl, h⟩
      intro k2 h
      refine TriE.block ?_
      refine TriE.seq ?_
      refine TriE.regJ ?_
      refine RegJ.run 1 [(0, .ptr 0 0 0), (1, vi a7), (2, .own 4 0 v11.length), (15, eS 1 vb (ix a0 a7.toNat)), (16, vi (((ix a0 a7.toNat).length : Nat) : Int)), (17, vi ((v10 : Nat) : Int)), (19, vi ((v10 : Nat) : Int))] [some (.row 3 [.agg [.own 1 0 a0.length, .own 2 a2 a3, .own 3 a5 a6]]), some (.row 1 (List.map (eS 1 vb) a0)), some (.row 1 (List.map vi v13)), some (.row 1 (List.map vi v12)), some (.row 1 (List.map vb v11))] (by kernel_rfl) ?_
      obtain ⟨c4, h⟩ := chk_some h
      refine jv (.fptr 1 (List.map vb (ix a0 a7.toNat)) v10 0) (cz (I0 20 (.iaddr 1 (.t 15) (.t 17))) (by kernel_rfl)) (ok_iaddr_m (j := v10) rfl rfl rfl c4) rfl ?_
      refine jv (vb (ix (ix a0 a7.toNat) v10)) (cz (I0 21 (.load false 1 (.t 20))) (by kernel_rfl)) (ok_load_fm (v := vb (ix (ix a0 a7.toNat) v10)) rfl c4 rfl) rfl ?_
      refine jrd 2 [(0, .ptr 0 0 0), (1, vi a7), (2, .own 4 0 v11.length), (15, eS 1 vb (ix a0 a7.toNat)), (16, vi (((ix a0 a7.toNat).length : Nat) : Int)), (17, vi ((v10 : Nat) : Int)), (7, vi ((v10 : Nat) : Int)), (8, vb (ix (ix a0 a7.toNat) v10))] [some (.row 3 [.agg [.own 1 0 a0.length, .own 2 a2 a3, .own 3 a5 a6]]), some (.row 1 (List.map (eS 1 vb) a0)), some (.row 1 (List.map vi v13)), some (.row 1 (List.map vi v12)), some (.row 1 (List.map vb v11))] (by kernel_rfl) rfl ?_
      refine TriE.seq ?_
      refine TriE.seq ?_
      refine TriE.regJ ?_
      refine RegJ.run 3 [(0, .ptr 0 0 0), (1, vi a7), (2, .own 4 0 v11.length), (15, eS 1 vb (ix a0 a7.toNat)), (16, vi (((ix a0 a7.toNat).length : Nat) : Int)), (17, vi ((v10 : Nat) : Int)), (7, vi ((v10 : Nat) : Int)), (24, vb (!(ix (ix a0 a7.toNat) v10)))] [some (.row 3 [.agg [.own 1 0 a0.length, .own 2 a2 a3, .own 3 a5 a6]]), some (.row 1 (List.map (eS 1 vb) a0)), some (.row 1 (List.map vi v13)), some (.row 1 (List.map vi v12)), some (.row 1 (List.map vb v11))] (by kernel_rfl) ?_
      refine RegJ.op (Op1.valk (g := !(!(ix (ix a0 a7.toNat) v10))) (v := .own 4 0 v11.length) _ _ (cz (IG 25 (.mov (.t 2)) 24 false) (by kernel_rfl)) rfl (by kernel_rfl) (fun hg => (.cons rfl .nil))) ?_
      refine RegJ.op (Op1.valk (g := !(!(ix (ix a0 a7.toNat) v10))) (v := vi ((v10 : Nat) : Int)) _ _ (cz (IG 26 (.mov (.t 7)) 24 false) (by kernel_rfl)) rfl (by kernel_rfl) (fun hg => (.cons rfl .nil))) ?_
      obtain ⟨c5, h⟩ := chk_some h
      refine RegJ.op (Op1.valg (g := !(!(ix (ix a0 a7.toNat) v10))) (v := .ptr 4 v10 0) _ _ (cz (IG 27 (.iaddr 1 (.t 25) (.t 26)) 24 false) (by kernel_rfl)) rfl (fun hg => (ok_iaddr_o0 (j := v10) rfl rfl rfl rfl (gor c5 hg))) (fun hg => (.cons hg (.cons hg .nil)))) ?_
      obtain ⟨c6, h⟩ := chk_some h
      refine RegJ.op (Op1.valg (g := !(!(ix (ix a0 a7.toNat) v10))) (v := vb (ix v11 v10)) _ _ (cz (IG 28 (.load false 1 (.t 27)) 24 false) (by kernel_rfl)) rfl (fun hg => (ok_load_pm (l := v11) (e := vb) (v := vb (ix v11 v10)) rfl rfl (gor c6 hg) rfl)) (fun hg => (.cons hg .nil))) ?_
      refine RegJ.op (Op1.or (cz (I0 29 (.pick (.t 24) (.c (.p (.bool true))) (.t 28))) (by kernel_rfl)) rfl rfl (by first | exact hokO1 | exact hokO0 | simp)) ?_
      refine jd [(0, .ptr 0 0 0), (1, vi a7), (2, .own 4 0 v11.length), (15, eS 1 vb (ix a0 a7.toNat)), (16, vi (((ix a0 a7.toNat).length : Nat) : Int)), (17, vi ((v10 : Nat) : Int)), (7, vi ((v10 : Nat) : Int)), (29, vb ((!(ix (ix a0 a7.toNat) v10)) || (ix v11 v10)))] (by kernel_rfl) rfl ?_
      refine TriE.cond (b := (!(ix (ix a0 a7.toNat) v10)) || (ix v11 v10)) rfl (fun c7 => ?_) (fun c7 => ?_)
      · have h := cond_t h c7
        refine TriE.exit ?_
        exact Vs.intro (sl (by kernel_rfl)) ⟨(v11, v12, v13), rfl, h⟩
      have h := cond_f h c7
      refine TriE.skip ?_
      refine TriE.seq ?_
      refine TriE.regJ ?_
      refine RegJ.run 2 [(0, .ptr 0 0 0), (1, vi a7), (2, .own 4 0 v11.length), (15, eS 1 vb (ix a0 a7.toNat)), (16, vi (((ix a0 a7.toNat).length : Nat) : Int)), (17, vi ((v10 : Nat) : Int)), (7, vi ((v10 : Nat) : Int)), (30, .own 4 0 v11.length), (31, vi ((v10 : Nat) : Int))] [some (.row 3 [.agg [.own 1 0 a0.length, .own 2 a2 a3, .own 3 a5 a6]]), some (.row 1 (List.map (eS 1 vb) a0)), some (.row 1 (List.map vi v13)), some (.row 1 (List.map vi v12)), some (.row 1 (List.map vb v11))] (by kernel_rfl) ?_
      obtain ⟨c8, h⟩ := chk_some h
      refine jv (.ptr 4 v10 0) (cz (I0 32 (.iaddr 1 (.t 30) (.t 31))) (by kernel_rfl)) (ok_iaddr_o0 (j := v10) rfl rfl rfl rfl c8) rfl ?_
      refine je (.undef) [some (.row 3 [.agg [.own 1 0 a0.length, .own 2 a2 a3, .own 3 a5 a6]]), some (.row 1 (List.map (eS 1 vb) a0)), some (.row 1 (List.map vi v13)), some (.row 1 (List.map vi v12)), some (.row 1 (List.map vb (List.set v11 v10 true)))] (cz (IN (.store 1 (.t 32) (.c (.p (.bool true))))) (by kernel_rfl)) (ok_store_m (l := v11) (e := vb) (x' := true) (u := vb true) rfl rfl rfl c8 rfl rfl) rfl rfl rfl ?_
      refine jd [(0, .ptr 0 0 0), (1, vi a7), (2, .own 4 0 v11.length), (15, eS 1 vb (ix a0 a7.toNat)), (16, vi (((ix a0 a7.toNat).length : Nat) : Int)), (17, vi ((v10 : Nat) : Int)), (7, vi ((v10 : Nat) : Int))] (by kernel_rfl) rfl ?_
      refine TriE.seqK h (fun (t : Bool × (List Bool) × (List Int) × (List Int)) => match t with | (v16, v17, v18, v19) => St.mk [(0, .ptr 0 0 0), (1, vi a7), (2, .own 4 0 v17.length), (15, eS 1 vb (ix a0 a7.toNat)), (16, vi (((ix a0 a7.toNat).length : Nat) : Int)), (17, vi ((v10 : Nat) : Int)), (7, vi ((v10 : Nat) : Int)), (52, vb v16)] [some (.row 3 [.agg [.own 1 0 a0.length, .own 2 a2 a3, .own 3 a5 a6]]), some (.row 1 (List.map (eS 1 vb) a0)), some (.row 1 (List.map vi v19)), some (.row 1 (List.map vi v18)), some (.row 1 (List.map vb v17))]) ?_ ?_
      · rintro ⟨v16, v17, v18, v19⟩ h
        show TriE _ _ _ _ _ (St.mk [(0, .ptr 0 0 0), (1, vi a7), (2, .own 4 0 v17.length), (15, eS 1 vb (ix a0 a7.toNat)), (16, vi (((ix a0 a7.toNat).length : Nat) : Int)), (17, vi ((v10 : Nat) : Int)), (7, vi ((v10 : Nat) : Int)), (52, vb v16)] [some (.row 3 [.agg [.own 1 0 a0.length, .own 2 a2 a3, .own 3 a5 a6]]), some (.row 1 (List.map (eS 1 vb) a0)), some (.row 1 (List.map vi v19)), some (.row 1 (List.map vi v18)), some (.row 1 (List.map vb v17))]) _
        refine TriE.cond (b := v16) rfl (fun c13 => ?_) (fun c13 => ?_)
        · have h := cond_t h c13
          refine TriE.seq ?_
          refine TriE.sees (Sees.less (fr' := [(0, .ptr 0 0 0), (1, vi a7), (7, vi ((v10 : Nat) : Int))]) (.cons rfl (.cons rfl (.cons rfl .nil)))) ?_
          refine TriE.draw (by kernel_rfl) ?_
          refine RegD.run 12 [(64, vi a7), (63, vi ((v10 : Nat) : Int)), (62, vi ((v10 : Nat) : Int)), (61, .own 3 a5 a6), (60, .ptr 0 0 2), (59, .ptr 0 0 0), (58, .ptr 0 0 0), (57, vi a7), (56, .own 2 a2 a3), (55, .ptr 0 0 1), (54, .ptr 0 0 0), (53, .ptr 0 0 0), (0, .ptr 0 0 0), (1, vi a7), (7, vi ((v10 : Nat) : Int))] [some (.row 3 [.agg [.own 1 0 a0.length, .own 2 a2 a3, .own 3 a5 a6]]), some (.row 1 (List.map (eS 1 vb) a0)), some (.row 1 (List.map vi v19)), some (.row 1 (List.map vi v18)), some (.row 1 (List.map vb v17)), none, none, none, none, none, none, none, none, none, none, none, none] (by kernel_rfl) ?_
          obtain ⟨c14, h⟩ := chk_some h
          refine dv (.ptr 2 (a2 + a7.toNat) 0) (cz (I0 65 (.iaddr 1 (.t 56) (.t 57))) (by kernel_rfl)) (ok_iaddr_o (j := a7.toNat) rfl rfl rfl (inB_to c14) (inB_lt c14)) rfl ?_
          obtain ⟨c15, h⟩ := chk_some h
          refine de (.undef) [some (.row 3 [.agg [.own 1 0 a0.length, .own 2 a2 a3, .own 3 a5 a6]]), some (.row 1 (List.map (eS 1 vb) a0)), some (.row 1 (List.map vi (List.set v19 (a2 + a7.toNat) ((v10 : Nat) : Int)))), some (.row 1 (List.map vi v18)), some (.row 1 (List.map vb v17)), none, none, none, none, none, none, none, none, none, none, none, none, none, none] (cz (IN (.store 1 (.t 65) (.t 63))) (by kernel_rfl)) (ok_store_m (l := v19) (e := vi) (x' := ((v10 : Nat) : Int)) (u := vi ((v10 : Nat) : Int)) rfl rfl rfl c15 rfl rfl) rfl rfl rfl ?_
          obtain ⟨c16, h⟩ := chk_some h
          refine dv (.ptr 3 (a5 + v10) 0) (cz (I0 66 (.iaddr 1 (.t 61) (.t 62))) (by kernel_rfl)) (ok_iaddr_o (j := v10) rfl rfl rfl rfl c16) rfl ?_
          obtain ⟨c17, h⟩ := chk_some h
          refine de (.undef) [some (.row 3 [.agg [.own 1 0 a0.length, .own 2 a2 a3, .own 3 a5 a6]]), some (.row 1 (List.map (eS 1 vb) a0)), some (.row 1 (List.map vi (List.set v19 (a2 + a7.toNat) ((v10 : Nat) : Int)))), some (.row 1 (List.map vi (List.set v18 (a5 + v10) a7))), some (.row 1 (List.map vb v17)), none, none, none, none, none, none, none, none, none, none, none, none, none, none, none, none] (cz (IN (.store 1 (.t 66) (.t 64))) (by kernel_rfl)) (ok_store_m (l := v18) (e := vi) (x' := a7) (u := vi a7) rfl rfl rfl c17 rfl rfl) rfl rfl rfl ?_
          refine RegD.done rfl (by kernel_rfl) (S' := ⟨[], [some (.row 3 [.agg [.own 1 0 a0.length, .own 2 a2 a3, .own 3 a5 a6]]), some (.row 1 (List.map (eS 1 vb) a0)), some (.row 1 (List.map vi (List.set v19 (a2 + a7.toNat) ((v10 : Nat) : Int)))), some (.row 1 (List.map vi (List.set v18 (a5 + v10) a7))), some (.row 1 (List.map vb v17))]⟩) (sc [0, 1, 2, 3, 4] (by decide) (by kernel_rfl) (.cons rfl (obRen_row (eS_frz 1 vb) rfl (obRen_row vi_frz rfl (obRen_row vi_frz rfl (obRen_row vb_frz rfl .nil))))) rfl rfl) ?_
          refine TriE.seq ?_
          refine TriE.run [(6, vb true)] [some (.row 3 [.agg [.own 1 0 a0.length, .own 2 a2 a3, .own 3 a5 a6]]), some (.row 1 (List.map (eS 1 vb) a0)), some (.row 1 (List.map vi (List.set v19 (a2 + a7.toNat) ((v10 : Nat) : Int)))), some (.row 1 (List.map vi (List.set v18 (a5 + v10) a7))), some (.row 1 (List.map vb v17))] (by kernel_rfl) ?_
          refine TriE.ret ?_
          have h := Option.some.inj h
          subst h
          exact DoneS.ret (S' := ⟨[(6, vb true)], [some (.row 3 [.agg [.own 1 0 a0.length, .own 2 a2 a3, .own 3 a5 a6]]), some (.row 1 (List.map (eS 1 vb) a0)), some (.row 1 (List.map vi (List.set v19 (a2 + a7.toNat) ((v10 : Nat) : Int)))), some (.row 1 (List.map vi (List.set v18 (a5 + v10) a7))), some (.row 1 (List.map vb v17))]⟩) Sees.refl rfl rfl
        have h := cond_f h c13
        refine TriE.skip ?_
        exact Vs.intro (sl (by kernel_rfl)) ⟨(v17, v18, v19), rfl, h⟩
      intro k1 h
      refine TriE.regJ ?_
      refine RegJ.run 5 [(0, .ptr 0 0 0), (1, vi a7), (2, .own 4 0 v11.length), (15, eS 1 vb (ix a0 a7.toNat)), (16, vi (((ix a0 a7.toNat).length : Nat) : Int)), (17, vi ((v10 : Nat) : Int)), (7, vi ((v10 : Nat) : Int)), (36, .own 3 a5 a6), (37, vi ((v10 : Nat) : Int))] [some (.row 3 [.agg [.own 1 0 a0.length, .own 2 a2 a3, .own 3 a5 a6]]), some (.row 1 (List.map (eS 1 vb) a0)), some (.row 1 (List.map vi v13)), some (.row 1 (List.map vi v12)), some (.row 1 (List.map vb (List.set v11 v10 true)))] (by kernel_rfl) ?_
      obtain ⟨c9, h⟩ := chk_some h
      refine jv (.ptr 3 (a5 + v10) 0) (cz (I0 38 (.iaddr 1 (.t 36) (.t 37))) (by kernel_rfl)) (ok_iaddr_o (j := v10) rfl rfl rfl rfl c9) rfl ?_
      obtain ⟨c10, h⟩ := chk_some h
      refine jv (vi (ix v12 (a5 + v10))) (cz (I0 39 (.load false 1 (.t 38))) (by kernel_rfl)) (ok_load_pm (l := v12) (e := vi) (v := vi (ix v12 (a5 + v10))) rfl rfl c10 rfl) rfl ?_
      refine RegJ.run 2 [(0, .ptr 0 0 0), (1, vi a7), (2, .own 4 0 v11.length), (15, eS 1 vb (ix a0 a7.toNat)), (16, vi (((ix a0 a7.toNat).length : Nat) : Int)), (17, vi ((v10 : Nat) : Int)), (7, vi ((v10 : Nat) : Int)), (41, vb (decide ((ix v12 (a5 + v10)) < (0 : Int))))] [some (.row 3 [.agg [.own 1 0 a0.length, .own 2 a2 a3, .own 3 a5 a6]]), some (.row 1 (List.map (eS 1 vb) a0)), some (.row 1 (List.map vi v13)), some (.row 1 (List.map vi v12)), some (.row 1 (List.map vb (List.set v11 v10 true)))] (by kernel_rfl) ?_
      refine RegJ.op (Op1.valk (g := !(decide ((ix v12 (a5 + v10)) < (0 : Int)))) (v := .ptr 0 0 0) _ _ (cz (IG 42 (.mov (.t 0)) 41 false) (by kernel_rfl)) rfl (by kernel_rfl) (fun hg => (.cons rfl .nil))) ?_
      refine RegJ.op (Op1.valk (g := !(decide ((ix v12 (a5 + v10)) < (0 : Int)))) (v := .ptr 0 0 0) _ _ (cz (IG 43 (.mov (.t 0)) 41 false) (by kernel_rfl)) rfl (by kernel_rfl) (fun hg => (.cons rfl .nil))) ?_
      refine RegJ.op (Op1.valk (g := !(decide ((ix v12 (a5 + v10)) < (0 : Int)))) (v := .ptr 0 0 0) _ _ (cz (IG 44 (.nilchk (.t 43)) 41 false) (by kernel_rfl)) rfl (by kernel_rfl) (fun hg => (.cons hg .nil))) ?_
      refine RegJ.op (Op1.valk (g := !(decide ((ix v12 (a5 + v10)) < (0 : Int)))) (v := .ptr 0 0 2) _ _ (cz (IG 45 (.faddr 2 (.t 44)) 41 false) (by kernel_rfl)) rfl (by kernel_rfl) (fun hg => (.cons hg .nil))) ?_
      refine RegJ.op (Op1.valk (g := !(decide ((ix v12 (a5 + v10)) < (0 : Int)))) (v := .own 3 a5 a6) _ _ (cz (IG 46 (.load false 1 (.t 45)) 41 false) (by kernel_rfl)) rfl (by kernel_rfl) (fun hg => (.cons hg .nil))) ?_
      refine RegJ.op (Op1.valk (g := !(decide ((ix v12 (a5 + v10)) < (0 : Int)))) (v := vi ((v10 : Nat) : Int)) _ _ (cz (IG 47 (.mov (.t 7)) 41 false) (by kernel_rfl)) rfl (by kernel_rfl) (fun hg => (.cons rfl .nil))) ?_
      refine RegJ.op (Op1.valg (g := !(decide ((ix v12 (a5 + v10)) < (0 : Int)))) (v := .ptr 3 (a5 + v10) 0) _ _ (cz (IG 48 (.iaddr 1 (.t 46) (.t 47)) 41 false) (by kernel_rfl)) rfl (fun hg => (ok_iaddr_o (j := v10) rfl rfl rfl rfl c9)) (fun hg => (.cons hg (.cons hg .nil)))) ?_
      refine RegJ.op (Op1.valg (g := !(decide ((ix v12 (a5 + v10)) < (0 : Int)))) (v := vi (ix v12 (a5 + v10))) _ _ (cz (IG 49 (.load false 1 (.t 48)) 41 false) (by kernel_rfl)) rfl (fun hg => (ok_load_pm (l := v12) (e := vi) (v := vi (ix v12 (a5 + v10))) rfl rfl c10 rfl)) (fun hg => (.cons hg .nil))) ?_
      refine RegJ.op (Op1.valk (g := !(decide ((ix v12 (a5 + v10)) < (0 : Int)))) (v := .own 4 0 v11.length) _ _ (cz (IG 50 (.mov (.t 2)) 41 false) (by kernel_rfl)) rfl (by kernel_rfl) (fun hg => (.cons rfl .nil))) ?_
      rcases Bool.eq_false_or_eq_true (!(decide ((ix v12 (a5 + v10)) < (0 : Int)))) with c11 | c11
      · have h := cond_t h c11
        obtain ⟨y14, hy14, h⟩ := bind_some h
        refine RegJ.op (Op1.call (y' := vb y14.2.2.2) (obx := [some (.row 3 [.agg [.own 1 0 a0.length, .own 2 a2 a3, .own 3 a5 a6]]), some (.row 1 (List.map (eS 1 vb) a0)), some (.row 1 (List.map vi v13)), some (.row 1 (List.map vi v12)), some (.row 1 (List.map vb (List.set v11 v10 true)))]) (oby := [some (.row 3 [.agg [.own 1 0 a0.length, .own 2 a2 a3, .own 3 a5 a6]]), some (.row 1 (List.map (eS 1 vb) a0)), some (.row 1 (List.map vi y14.2.2.1)), some (.row 1 (List.map vi y14.2.1)), some (.row 1 (List.map vb y14.1))]) (ob2 := [some (.row 3 [.agg [.own 1 0 a0.length, .own 2 a2 a3, .own 3 a5 a6]]), some (.row 1 (List.map (eS 1 vb) a0)), some (.row 1 (List.map vi y14.2.2.1)), some (.row 1 (List.map vi y14.2.1)), some (.row 1 (List.map vb y14.1))]) _ _ (cz (IG 51 (.call 132 [(.t 42), (.t 49), (.t 50)]) 41 false) (by kernel_rfl)) (congrArg some c11) (ih a0 v13 a2 a3 v12 a5 a6 (ix v12 (a5 + v10)) (List.set v11 v10 true) y14 hy14) [0, 1, 2, 3, 4] (by simp only [List.length_set]; rfl) (.cons rfl (.cons c11 (.cons c11 (.cons c11 .nil)))) (by kernel_rfl) (by kernel_rfl) (.cons rfl (.same (row_ren (eS_frz 1 vb) _ _ _) (.same (row_ren vi_frz _ _ _) (.same (row_ren vi_frz _ _ _) (.same (row_ren vb_frz _ _ _) .nil))))) (by kernel_rfl) (.cons rfl (.same (row_ren (eS_frz 1 vb) _ _ _) (.same (row_ren vi_frz _ _ _) (.same (row_ren vi_frz _ _ _) (.same (row_ren vb_frz _ _ _) .nil))))) (by kernel_rfl)) ?_
        obtain ⟨c12, h⟩ := chk_some h
        refine RegJ.sees (S' := ⟨[(0, .ptr 0 0 0), (1, vi a7), (2, .own 4 0 y14.1.length), (15, eS 1 vb (ix a0 a7.toNat)), (16, vi (((ix a0 a7.toNat).length : Nat) : Int)), (17, vi ((v10 : Nat) : Int)), (7, vi ((v10 : Nat) : Int)), (41, vb (decide ((ix v12 (a5 + v10)) < (0 : Int)))), (42, .cond (!(decide ((ix v12 (a5 + v10)) < (0 : Int)))) (.ptr 0 0 0)), (43, .cond (!(decide ((ix v12 (a5 + v10)) < (0 : Int)))) (.ptr 0 0 0)), (44, .cond (!(decide ((ix v12 (a5 + v10)) < (0 : Int)))) (.ptr 0 0 0)), (45, .cond (!(decide ((ix v12 (a5 + v10)) < (0 : Int)))) (.ptr 0 0 2)), (46, .cond (!(decide ((ix v12 (a5 + v10)) < (0 : Int)))) (.own 3 a5 a6)), (47, .cond (!(decide ((ix v12 (a5 + v10)) < (0 : Int)))) (vi ((v10 : Nat) : Int))), (48, .cond (!(decide ((ix v12 (a5 + v10)) < (0 : Int)))) (.ptr 3 (a5 + v10) 0)), (49, .cond (!(decide ((ix v12 (a5 + v10)) < (0 : Int)))) (vi (ix v12 (a5 + v10)))), (50, .cond (!(decide ((ix v12 (a5 + v10)) < (0 : Int)))) (.own 4 0 y14.1.length)), (51, vb y14.2.2.2)], [some (.row 3 [.agg [.own 1 0 a0.length, .own 2 a2 a3, .own 3 a5 a6]]), some (.row 1 (List.map (eS 1 vb) a0)), some (.row 1 (List.map vi y14.2.2.1)), some (.row 1 (List.map vi y14.2.1)), some (.row 1 (List.map vb y14.1))]⟩) (Sees.cov (Cov.mk2 (rs := [0, 1, 2, 3, 4]) (by decide) rfl rfl (.cons (.inl rfl) (.cons (.inl rfl) (.cons (.inl (by rw [show v11.length = y14.1.length from of_decide_eq_true c12]; rfl)) (.cons (.inl rfl) (.cons (.inl rfl) (.cons (.inl rfl) (.cons (.inl rfl) (.cons (.inl rfl) (.cons (.inl rfl) (.cons (.inl rfl) (.cons (.inl rfl) (.cons (.inl rfl) (.cons (.inl rfl) (.cons (.inl rfl) (.cons (.inl rfl) (.cons (.inl rfl) (.cons (.inl (by rw [show v11.length = y14.1.length from of_decide_eq_true c12]; rfl)) (.cons (.inl rfl) .nil)))))))))))))))))) (.cons rfl (obRen_row (eS_frz 1 vb) rfl (obRen_row vi_frz rfl (obRen_row vi_frz rfl (obRen_row vb_frz rfl .nil))))))) ?_
        refine RegJ.op (Op1.or (cz (I0 52 (.pick (.t 41) (.c (.p (.bool true))) (.t 51))) (by kernel_rfl)) rfl rfl (by first | exact hokO1 | exact hokO0 | simp)) ?_
        refine jd [(0, .ptr 0 0 0), (1, vi a7), (2, .own 4 0 y14.1.length), (15, eS 1 vb (ix a0 a7.toNat)), (16, vi (((ix a0 a7.toNat).length : Nat) : Int)), (17, vi ((v10 : Nat) : Int)), (7, vi ((v10 : Nat) : Int)), (51, vb y14.2.2.2), (52, vb ((decide ((ix v12 (a5 + v10)) < (0 : Int))) || y14.2.2.2))] (by kernel_rfl) rfl ?_
        exact Vs.intro (sl (by kernel_rfl)) ⟨((decide ((ix v12 (a5 + v10)) < (0 : Int))) || y14.2.2.2, y14.1, y14.2.1, y14.2.2.1), rfl, h⟩
      have h := cond_f h c11
      refine RegJ.op (Op1.skipc (g := !(decide ((ix v12 (a5 + v10)) < (0 : Int)))) (v := vb false) (by kernel_rfl : compAt _ _ _ _ = some ⟨(some 51), .call 132 [(.t 42), (.t 49), (.t 50)], (some (41, false)), [(.c (.fn (.func 132) [] [])), (.t 42), (.t 49), (.t 50)], 2⟩) rfl c11) ?_
      refine RegJ.op (Op1.or (cz (I0 52 (.pick (.t 41) (.c (.p (.bool true))) (.t 51))) (by kernel_rfl)) rfl rfl (by first | exact hokO1 | exact hokO0 | simp)) ?_
      refine jd [(0, .ptr 0 0 0), (1, vi a7), (2, .own 4 0 v11.length), (15, eS 1 vb (ix a0 a7.toNat)), (16, vi (((ix a0 a7.toNat).length : Nat) : Int)), (17, vi ((v10 : Nat) : Int)), (7, vi ((v10 : Nat) : Int)), (52, vb ((decide ((ix v12 (a5 + v10)) < (0 : Int))) || false))] (by kernel_rfl) rfl ?_
      exact Vs.intro (Sees.less (.cons rfl (.cons rfl (.cons (by simp only [List.length_set]; rfl) (.cons rfl (.cons rfl (.cons rfl (.cons rfl (.cons rfl .nil))))))))) ⟨((decide ((ix v12 (a5 + v10)) < (0 : Int))) || false, (List.set v11 v10 true), v12, v13), rfl, h⟩
    have h := cond_f h c3
    refine TriE.exit ?_
    exact Vs.intro (sl (by kernel_rfl)) ⟨(v11, v12, v13), rfl, h⟩
theorem restore_matching_grow_ok (n : Nat) (a0 : List (List Bool)) (a1 : List Int) (a2 : Nat) (a3 : Nat) (a4 : List Int) (a5 : Nat) (a6 : Nat) (a7 : Int) (a8 : List Bool) (r : (List Bool) × (List Int) × (List Int) × Bool) (h : restore_matching_grow n a0 a1 a2 a3 a4 a5 a6 a7 a8 = some r) : FnL Tryz.prog 132 [.ptr 0 0 0, vi a7, .own 4 0 a8.length] [some (.row 3 [.agg [.own 1 0 a0.length, .own 2 a2 a3, .own 3 a5 a6]]), some (.row 1 (List.map (eS 1 vb) a0)), some (.row 1 (List.map vi a1)), some (.row 1 (List.map vi a4)), some (.row 1 (List.map vb a8))] (vb r.2.2.2) [some (.row 3 [.agg [.own 1 0 a0.length, .own 2 a2 a3, .own 3 a5 a6]]), some (.row 1 (List.map (eS 1 vb) a0)), some (.row 1 (List.map vi r.2.2.1)), some (.row 1 (List.map vi r.2.1)), some (.row 1 (List.map vb r.1))] := restore_matching_grow_ok_ n n a0 a1 a2 a3 a4 a5 a6 a7 a8 r h
set_option maxHeartbeats 1000000 in
theorem restore_Match_f1_2_ok_ (n : Nat) : ∀ (fu : Nat) (a0 : Int) (a1 : List Bool) (a2 : Nat) (a3 : Nat) (a4 : List (List Bool)) (a5 : List Int) (a6 : Nat) (a7 : Nat) (a8 : List Int) (a9 : Nat) (a10 : Nat) (a11 : List Bool) (a12 : Nat) (a13 : Nat) (r : (List Bool) × (List Bool)), loopN (restore_Match_f1_2_F n) fu (a0, a1, a2, a3, a4, a5, a6, a7, a8, a9, a10, a11, a12, a13) = some r → FnL Tryz.prog 133 [vi a0, .ptr 0 0 0, .ptr 2 0 0, .ptr 7 0 0, .ptr 9 0 0] [some (.row 1 [.own 1 a2 a3]), some (.row 1 (List.map vb a1)), some (.row 1 [.ptr 3 0 0]), some (.row 3 [.agg [.own 4 0 a4.length, .own 5 a6 a7, .own 6 a9 a10]]), some (.row 1 (List.map (eS 1 vb) a4)), some (.row 1 (List.map vi a5)), some (.row 1 (List.map vi a8)), some (.row 1 [.own 8 a12 a13]), some (.row 1 (List.map vb a11)), some (.row 1 [.fn (.func 133) [] [.ptr 0 0 0, .ptr 2 0 0, .ptr 7 0 0, .ptr 9 0 0]])] (.tup []) [some (.row 1 [.own 1 a2 a3]), some (.row 1 (List.map vb r.2)), some (.row 1 [.ptr 3 0 0]), some (.row 3 [.agg [.own 4 0 a4.length, .own 5 a6 a7, .own 6 a9 a10]]), some (.row 1 (List.map (eS 1 vb) a4)), some (.row 1 (List.map vi a5)), some (.row 1 (List.map vi a8)), some (.row 1 [.own 8 a12 a13]), some (.row 1 (List.map vb r.1)), some (.row 1 [.fn (.func 133) [] [.ptr 0 0 0, .ptr 2 0 0, .ptr 7 0 0, .ptr 9 0 0]])] := by
 intro fu
 induction fu with
 | zero =>
  intro a0 a1 a2 a3 a4 a5 a6 a7 a8 a9 a10 a11 a12 a13 r h
  cases h
 | succ fu ih =>
  intro a0 a1 a2 a3 a4 a5 a6 a7 a8 a9 a10 a11 a12 a13 r h
  replace h : restore_Match_f1_2_F n (loopN (restore_Match_f1_2_F n) fu) (a0, a1, a2, a3, a4, a5, a6, a7, a8, a9, a10, a11, a12, a13) = some r := h
  dsimp only [restore_Match_f1_2_F] at h
  refine fob [] Tryz.call133 Tryz.func133 rfl (.cons rfl (.cons rfl (.cons rfl (.cons rfl (.cons rfl (.cons rfl (.cons rfl (.cons rfl (.cons rfl (.cons rfl .nil)))))))))) ?_
  refine q1 ?_
  refine sj ?_
  refine rk 2 (.k4 (.k (.i 8 (.own 1 a2 a3) (.i 9 (vi a0) .n)))) ?_
  obtain ⟨c1, h⟩ := ck h
  refine jo 10 (.iaddr 1 8 9) (ok_iaddr_o (j := a0.toNat) rfl rfl rfl (inB_to c1) (inB_lt c1)) ?_
  obtain ⟨c2, h⟩ := ck h
  refine jo 11 (.load false 1 10) (ok_load_pm (l := a1) (e := vb) (v := vb (ix a1 (a2 + a0.toNat))) rfl rfl c2 rfl) ?_
  refine jf (.d2 (.k4 (.k (.i 11 (vb (ix a1 (a2 + a0.toNat))) .n)))) ?_
  refine tc h (fun c3 h => ?_) (fun c3 h => ?_)
  ·refine q3 ?_
   have h := si h
   subst h
   exact dr .n rfl rfl
  refine q2 ?_
  refine sj ?_
  refine rk 2 (.k (.d (.k3 (.i 12 (.own 1 a2 a3) (.i 13 (vi a0) .n))))) ?_
  refine jo 14 (.iaddr 1 12 13) (ok_iaddr_o (j := a0.toNat) rfl rfl rfl (inB_to c1) (inB_lt c1)) ?_
  refine jn (.store 1 14 (.c (.p (.bool true)))) _ (ok_store_m (l := a1) (e := vb) (x' := true) (u := vb true) rfl rfl rfl c2 rfl rfl) rfl rfl ?_
  refine jf (.d (.k4 .n)) ?_
  refine sj ?_
  refine rk 5 (.d (.k3 (.i 18 (.own 4 0 a4.length) (.i 19 (vi a0) .n)))) ?_
  obtain ⟨c4, h⟩ := ck h
  refine jo 20 (.iaddr 1 18 19) (ok_iaddr_o0 (j := a0.toNat) rfl rfl rfl (inB_to c4) (inB_lt c4)) ?_
  obtain ⟨c5, h⟩ := ck h
  refine jo 21 (.load false 1 20) (ok_load_pm (l := a4) (e := (eS 1 vb)) (v := eS 1 vb (ix a4 a0.toNat)) rfl rfl c5 rfl) ?_
  refine jo 22 (.len 0 21) (ok_len_m rfl) ?_
  refine jk 1 (.d3 (.k3 (.i 21 (eS 1 vb (ix a4 a0.toNat)) (.i 22 (vi (((ix a4 a0.toNat).length : Nat) : Int)) (.i 23 (vi 0) .n))))) ?_
  refine q4 ?_
  refine ts (.k4 (.k (.i 23 (vi 0) .n))) ?_
  refine TriE.loopN h (fun (t : Nat × (List Bool) × (List Bool)) => match t with | (v4, v5, v6) => St.mk [(2, .ptr 2 0 0), (3, .ptr 7 0 0), (4, .ptr 9 0 0), (21, eS 1 vb (ix a4 a0.toNat)), (22, vi (((ix a4 a0.toNat).length : Nat) : Int)), (23, vi v4)] [some (.row 1 [.own 1 a2 a3]), some (.row 1 (List.map vb v6)), some (.row 1 [.ptr 3 0 0]), some (.row 3 [.agg [.own 4 0 a4.length, .own 5 a6 a7, .own 6 a9 a10]]), some (.row 1 (List.map (eS 1 vb) a4)), some (.row 1 (List.map vi a5)), some (.row 1 (List.map vi a8)), some (.row 1 [.own 8 a12 a13]), some (.row 1 (List.map vb v5)), some (.row 1 [.fn (.func 133) [] [.ptr 0 0 0, .ptr 2 0 0, .ptr 7 0 0, .ptr 9 0 0]])]) rfl ?_
  clear h
  rintro back ⟨v4, v5, v6⟩ h
  dsimp only [restore_Match_f1_2_L1] at h
  refine sj ?_
  refine jo 24 (.bin .lss false 23 22) (n_lss (i := v4) (j := (ix a4 a0.toNat).length) rfl rfl) ?_
  refine jf (.d (.k4 (.k2 (.i 24 (vb (decide (v4 < ((ix a4 a0.toNat).length)))) .n)))) ?_
  refine q1 ?_
  refine tc h (fun c6 h => ?_) (fun c6 h => ?_)
  ·refine q2 ?_
   refine TriE.seqK h (fun (t : (List Bool) × (List Bool)) => match t with | (v8, v9) => St.mk [(2, .ptr 2 0 0), (3, .ptr 7 0 0), (4, .ptr 9 0 0), (21, eS 1 vb (ix a4 a0.toNat)), (22, vi (((ix a4 a0.toNat).length : Nat) : Int)), (23, vi v4)] [some (.row 1 [.own 1 a2 a3]), some (.row 1 (List.map vb v9)), some (.row 1 [.ptr 3 0 0]), some (.row 3 [.agg [.own 4 0 a4.length, .own 5 a6 a7, .own 6 a9 a10]]), some (.row 1 (List.map (eS 1 vb) a4)), some (.row 1 (List.map vi a5)), some (.row 1 (List.map vi a8)), some (.row 1 [.own 8 a12 a13]), some (.row 1 (List.map vb v8)), some (.row 1 [.fn (.func 133) [] [.ptr 0 0 0, .ptr 2 0 0, .ptr 7 0 0, .ptr 9 0 0]])]) ?_ ?_
   ·rintro ⟨v8, v9⟩ h
    refine q6 ?_
    obtain ⟨c15, h⟩ := ck h
    refine jo 48 (.bin .add false 23 (ki 1)) (r_addn (i := v4) (j := 1) rfl rfl c15) ?_
    refine jk 1 (.d (.k4 (.k (.i 23 (vi ((v4 + 1 : Nat) : Int)) .n)))) ?_
    exact Vs.intro sy ⟨(v4 + 1, v8, v9), rfl, h⟩
   intro k1 h
   refine q4 ?_
   refine sj ?_
   refine rk 1 (.k4 (.k2 (.i 25 (vi v4) .n))) ?_
   obtain ⟨c7, h⟩ := ck h
   refine jo 26 (.iaddr 1 21 23) (ok_iaddr_m (j := v4) rfl rfl rfl c7) ?_
   refine jo 27 (.load false 1 26) (ok_load_fm (v := vb (ix (ix a4 a0.toNat) v4)) rfl c7 rfl) ?_
   refine jk 2 (.d2 (.k4 (.k2 (.i 6 (vi v4) (.i 7 (vb (ix (ix a4 a0.toNat) v4)) .n))))) ?_
   refine sj ?_
   refine rk 2 (.k4 (.k3 (.i 29 (vb (ix (ix a4 a0.toNat) v4)) .n))) ?_
   refine gj (.own 8 a12 a13) 30 (.load false 1 3) 29 true rfl ?_
   refine gj (vi v4) 31 (.mov 6) 29 true rfl ?_
   obtain ⟨c8, h⟩ := ck h
   refine gv 32 (.iaddr 1 30 31) 29 true rfl (fun hg => (ok_iaddr_o (j := v4) rfl rfl rfl rfl (gor c8 hg))) (fun hg => (.cons hg (.cons hg .nil))) ?_
   obtain ⟨c9, h⟩ := ck h
   refine gv 33 (.load false 1 32) 29 true rfl (fun hg => (ok_load_pm (l := v5) (e := vb) (v := vb (ix v5 (a12 + v4))) rfl rfl (gor c9 hg) rfl)) (fun hg => (.cons hg .nil)) ?_
   refine gk (vb (!(ix v5 (a12 + v4)))) 34 (.un .not 33) 29 true rfl (fun hg => (.cons hg .nil)) ?_
   refine pa 35 29 34 rfl rfl ?_
   refine jf (.d4 (.d2 (.k4 (.k3 (.i 35 (vb ((ix (ix a4 a0.toNat) v4) && (!(ix v5 (a12 + v4))))) .n))))) ?_
   refine tc h (fun c10 h => ?_) (fun c10 h => ?_)
   ·refine sj ?_
    refine rk 2 (.k4 (.k3 (.i 36 (.own 8 a12 a13) (.i 37 (vi v4) .n)))) ?_
    obtain ⟨c11, h⟩ := ck h
    refine jo 38 (.iaddr 1 36 37) (ok_iaddr_o (j := v4) rfl rfl rfl rfl c11) ?_
    obtain ⟨c12, h⟩ := ck h
    refine jn (.store 1 38 (.c (.p (.bool true)))) _ (ok_store_m (l := v5) (e := vb) (x' := true) (u := vb true) rfl rfl rfl c12 rfl rfl) rfl rfl ?_
    refine jf (.d (.k4 (.k3 .n))) ?_
    refine ts .a ?_
    refine TriE.draw (by kernel_rfl) ?_
    refine dk 6 (.i 44 (vi v4) (.i 43 (.own 6 a9 a10) (.i 42 (.ptr 3 0 2) (.i 41 (.ptr 3 0 0) (.i 40 (.ptr 3 0 0) (.i 39 (.fn (.func 133) [] [.ptr 0 0 0, .ptr 2 0 0, .ptr 7 0 0, .ptr 9 0 0]) .a)))))) ?_
    obtain ⟨c13, h⟩ := ck h
    refine dp 45 (.iaddr 1 43 44) (ok_iaddr_o (j := v4) rfl rfl rfl rfl c13) ?_
    obtain ⟨c14, h⟩ := ck h
    refine dp 46 (.load false 1 45) (ok_load_pm (l := a8) (e := vi) (v := vi (ix a8 (a9 + v4))) rfl rfl c14 rfl) ?_
    obtain ⟨y7, hy7, h⟩ := bs h
    refine RegD.op (OpD.dyn (y' := .tup []) (obx := [some (.row 1 [.own 1 a2 a3]), some (.row 1 (List.map vb v6)), some (.row 1 [.ptr 3 0 0]), some (.row 3 [.agg [.own 4 0 a4.length, .own 5 a6 a7, .own 6 a9 a10]]), some (.row 1 (List.map (eS 1 vb) a4)), some (.row 1 (List.map vi a5)), some (.row 1 (List.map vi a8)), some (.row 1 [.own 8 a12 a13]), some (.row 1 (List.map vb (List.set v5 (a12 + v4) true))), some (.row 1 [.fn (.func 133) [] [.ptr 0 0 0, .ptr 2 0 0, .ptr 7 0 0, .ptr 9 0 0]])]) (oby := [some (.row 1 [.own 1 a2 a3]), some (.row 1 (List.map vb y7.2)), some (.row 1 [.ptr 3 0 0]), some (.row 3 [.agg [.own 4 0 a4.length, .own 5 a6 a7, .own 6 a9 a10]]), some (.row 1 (List.map (eS 1 vb) a4)), some (.row 1 (List.map vi a5)), some (.row 1 (List.map vi a8)), some (.row 1 [.own 8 a12 a13]), some (.row 1 (List.map vb y7.1)), some (.row 1 [.fn (.func 133) [] [.ptr 0 0 0, .ptr 2 0 0, .ptr 7 0 0, .ptr 9 0 0]])]) (ob2 := [some (.row 1 [.own 1 a2 a3]), some (.row 1 (List.map vb y7.2)), some (.row 1 [.ptr 3 0 0]), some (.row 3 [.agg [.own 4 0 a4.length, .own 5 a6 a7, .own 6 a9 a10]]), some (.row 1 (List.map (eS 1 vb) a4)), some (.row 1 (List.map vi a5)), some (.row 1 (List.map vi a8)), some (.row 1 [.own 8 a12 a13]), some (.row 1 (List.map vb y7.1)), some (.row 1 [.fn (.func 133) [] [.ptr 0 0 0, .ptr 2 0 0, .ptr 7 0 0, .ptr 9 0 0]]), none, none, none, none, none, none, none, none, none]) (tch := [0, 1, 2, 3, 4, 5, 6, 7, 8, 9]) 0 _ _ _ (cy (I0 47 (.dyn 39 [46]))) rfl (ih (ix a8 (a9 + v4)) v6 a2 a3 a4 a5 a6 a7 a8 a9 a10 (List.set v5 (a12 + v4) true) a12 a13 y7 hy7) [0, 1, 2, 3, 4, 5, 6, 7, 8, 9] (by kernel_rfl) (.cons rfl (.cons rfl .nil)) (by kernel_rfl) (by kernel_rfl) (.cons rfl (.same (row_ren vb_frz _ _ _) (.cons rfl (.cons rfl (.same (row_ren (eS_frz 1 vb) _ _ _) (.same (row_ren vi_frz _ _ _) (.same (row_ren vi_frz _ _ _) (.cons rfl (.same (row_ren vb_frz _ _ _) (.cons rfl .nil)))))))))) (by kernel_rfl) (.cons rfl (.same (row_ren vb_frz _ _ _) (.cons rfl (.cons rfl (.same (row_ren (eS_frz 1 vb) _ _ _) (.same (row_ren vi_frz _ _ _) (.same (row_ren vi_frz _ _ _) (.cons rfl (.same (row_ren vb_frz _ _ _) (.cons rfl .nil)))))))))) (by kernel_rfl) rfl (.inl rfl)) ?_
    refine dfi (ob' := [some (.row 1 [.own 1 a2 a3]), some (.row 1 (List.map vb y7.2)), some (.row 1 [.ptr 3 0 0]), some (.row 3 [.agg [.own 4 0 a4.length, .own 5 a6 a7, .own 6 a9 a10]]), some (.row 1 (List.map (eS 1 vb) a4)), some (.row 1 (List.map vi a5)), some (.row 1 (List.map vi a8)), some (.row 1 [.own 8 a12 a13]), some (.row 1 (List.map vb y7.1)), some (.row 1 [.fn (.func 133) [] [.ptr 0 0 0, .ptr 2 0 0, .ptr 7 0 0, .ptr 9 0 0]])]) (.d4 (.d4 (.d (.k4 (.k2 .n))))) [0, 1, 2, 3, 4, 5, 6, 7, 8, 9] (.cons rfl (obRen_row vb_frz rfl (.cons rfl (.cons rfl (obRen_row (eS_frz 1 vb) rfl (obRen_row vi_frz rfl (obRen_row vi_frz rfl (.cons rfl (obRen_row vb_frz rfl (.cons rfl .nil)))))))))) ?_
    exact Vs.intro Sees.refl ⟨(y7.1, y7.2), rfl, h⟩
   refine q2 ?_
   exact Vs.intro sy ⟨(v5, v6), rfl, h⟩
  refine q5 ?_
  have h := si h
  subst h
  exact dn .n rfl rfl
theorem restore_Match_f1_2_ok (n : Nat) (a0 : Int) (a1 : List Bool) (a2 : Nat) (a3 : Nat) (a4 : List (List Bool)) (a5 : List Int) (a6 : Nat) (a7 : Nat) (a8 : List Int) (a9 : Nat) (a10 : Nat) (a11 : List Bool) (a12 : Nat) (a13 : Nat) (r : (List Bool) × (List Bool)) (h : restore_Match_f1_2 n a0 a1 a2 a3 a4 a5 a6 a7 a8 a9 a10 a11 a12 a13 = some r) : FnL Tryz.prog 133 [vi a0, .ptr 0 0 0, .ptr 2 0 0, .ptr 7 0 0, .ptr 9 0 0] [some (.row 1 [.own 1 a2 a3]), some (.row 1 (List.map vb a1)), some (.row 1 [.ptr 3 0 0]), some (.row 3 [.agg [.own 4 0 a4.length, .own 5 a6 a7, .own 6 a9 a10]]), some (.row 1 (List.map (eS 1 vb) a4)), some (.row 1 (List.map vi a5)), some (.row 1 (List.map vi a8)), some (.row 1 [.own 8 a12 a13]), some (.row 1 (List.map vb a11)), some (.row 1 [.fn (.func 133) [] [.ptr 0 0 0, .ptr 2 0 0, .ptr 7 0 0, .ptr 9 0 0]])] (.tup []) [some (.row 1 [.own 1 a2 a3]), some (.row 1 (List.map vb r.2)), some (.row 1 [.ptr 3 0 0]), some (.row 3 [.agg [.own 4 0 a4.length, .own 5 a6 a7, .own 6 a9 a10]]), some (.row 1 (List.map (eS 1 vb) a4)), some (.row 1 (List.map vi a5)), some (.row 1 (List.map vi a8)), some (.row 1 [.own 8 a12 a13]), some (.row 1 (List.map vb r.1)), some (.row 1 [.fn (.func 133) [] [.ptr 0 0 0, .ptr 2 0 0, .ptr 7 0 0, .ptr 9 0 0]])] := restore_Match_f1_2_ok_ n n a0 a1 a2 a3 a4 a5 a6 a7 a8 a9 a10 a11 a12 a13 r h
end Go.Proofs.YtifabpmjiphhdaaGreat.As
