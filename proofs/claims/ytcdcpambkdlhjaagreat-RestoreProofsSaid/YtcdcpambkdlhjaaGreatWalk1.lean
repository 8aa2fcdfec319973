/- The code computes what the plain functions say, part 1: no condition. -/
import Derived.Test.YtcdcpambkdlhjaaGreatPlain1
import Derived.Test.YtcdcpambkdlhjaaGreatProg
namespace Go.Proofs.YtcdcpambkdlhjaaGreat.As
open Go Go.Proofs
set_option maxRecDepth 4000
def keepT : List (Nat × List Nat) := [(14, [0, 1, 2, 3, 4, 5, 6, 7]), (19, [0, 2, 3, 4, 7, 9, 10, 11, 17, 25]), (22, [0, 2, 3, 4, 7, 8, 9, 10, 11, 15, 20, 28]), (29, [0, 1, 4, 5, 6, 7, 8, 10, 11, 12, 17, 21, 22, 23, 24, 28, 29, 30, 35]), (33, [0, 1, 4, 5, 10, 14, 25]), (35, [0, 1, 4, 5, 10, 14, 26]), (39, [0, 1, 4, 5, 10, 14, 25]), (65, [0, 1, 2, 6, 7, 8, 9, 10, 11, 12, 13, 15, 16, 17, 19, 20, 22, 23, 24, 25, 26, 27, 28, 29, 30, 34, 39, 46, 50, 51, 52, 53, 63, 77, 78, 79, 80, 81, 85, 86, 87, 88, 127, 128, 129, 140, 144, 145, 146, 147, 155, 180]), (82, [0]), (83, [0]), (84, [0, 1, 2, 3, 4, 5, 6, 8, 9, 10, 11, 12, 13, 15, 16, 20, 24, 28, 31, 35, 36, 37, 38, 52, 53, 54, 55, 83, 84, 85, 86]), (85, [0, 1, 4, 5, 6, 7, 9, 10, 15, 20, 27, 38, 66, 69, 70, 71, 72, 77, 82]), (86, [0, 1, 3, 4, 5, 6, 7, 13]), (87, [2]), (89, [0, 2, 3, 4, 5, 7, 8, 9, 10, 45]), (90, [0, 1, 3, 4]), (91, [0, 1, 2, 6]), (96, [0, 1, 4, 5, 6, 7, 8, 9, 10, 14, 19]), (98, [0, 1, 4, 5, 6, 8, 13, 17, 18, 19, 20, 21, 39]), (99, [0, 2, 4]), (100, [0, 1, 4, 5, 7, 8, 9, 16]), (101, [0, 1, 2, 3]), (103, [0, 2]), (108, [0, 1, 4, 5, 6, 7, 8, 9, 10, 14, 19, 25]), (116, [0, 1, 4]), (117, [0, 1, 3, 4]), (118, [0, 1, 4]), (126, [0, 1, 4]), (131, [0, 1, 4, 6, 7, 8, 9, 10, 11, 17, 22, 34]), (132, [0, 1, 2, 4, 5, 6, 8, 9, 13, 14, 15, 16, 24]), (133, [0, 1, 4, 5, 7, 8, 9, 10, 11]), (134, [0, 1, 3, 4, 5, 10, 11, 12, 18, 39]), (135, [0, 1, 4, 5, 6, 7, 8, 9, 10, 11, 19]), (136, [0, 2, 3, 5, 6, 7, 8, 9, 14]), (137, [0, 1, 4, 5, 6, 11, 12, 13, 16, 19]), (138, [0, 1, 4, 5, 6, 7, 8, 9, 10, 11, 12, 19, 28, 35]), (145, [0, 1, 4, 5, 6, 11, 12, 13, 16, 19]), (146, [0, 1, 2]), (148, [0, 2]), (149, [0, 2, 3, 4, 7, 15]), (150, [0, 1]), (151, [0, 1, 2, 3, 4, 7]), (152, [0, 2]), (153, [0, 1, 2, 4]), (154, [0, 1, 4]), (155, [0, 1, 4, 5, 7, 8, 9, 16]), (156, [0, 1, 2, 3]), (157, [0, 1, 4, 5, 7, 8, 9, 16]), (158, [0, 1, 2, 3]), (162, [0, 1, 2, 12]), (163, [0, 1, 2, 3, 8, 9, 11, 12, 13, 17, 19, 20, 21, 22, 30, 34, 42]), (164, [0, 1, 2]), (165, [0, 1, 2, 3, 8, 9, 10, 11, 12, 13, 14, 15, 16, 17, 18, 23, 29, 35, 50, 68, 72, 87, 113]), (166, [0, 2]), (167, [0, 1, 4]), (168, [0, 1, 2, 3]), (170, [0, 1, 4, 5, 7, 8, 9, 16]), (171, [0, 1, 2, 3]), (172, [0, 1, 4, 5, 7, 8, 9, 16]), (180, [0, 1, 4, 5, 7, 8, 9, 16]), (181, [0, 1, 4]), (182, [0, 1, 3]), (183, [0, 2]), (186, [0, 2]), (187, [0, 2, 3, 5, 6, 8, 9, 10, 11, 12, 20, 25, 26, 27, 28]), (188, [0, 1, 2, 6, 7, 8, 9, 13, 30, 35, 54]), (189, [0, 1, 4, 5, 7, 8, 9, 16]), (190, [0, 1, 2, 6, 7, 12, 30]), (191, [0, 1, 2, 6, 7, 8, 9, 10, 19, 30]), (192, [0, 1, 2, 6, 7, 8, 9, 10, 15, 33, 43]), (193, [0, 1, 2, 6, 7, 8, 9, 10, 11, 12, 32, 34, 49, 51, 54]), (194, [0, 1, 2, 6, 7, 13]), (195, [0, 1, 2, 6, 7, 8, 9, 10, 14, 32, 37, 41, 61, 65, 78, 98, 103, 116]), (196, [0, 1, 4]), (197, [0, 1, 2, 3, 8, 9, 10, 43, 59, 64]), (198, [0, 1, 2, 3, 8, 9, 10, 11, 43, 60, 65, 112, 129, 134]), (199, [0, 2, 4, 8]), (200, [0, 2, 4, 8, 14]), (201, [0, 1, 4, 5, 7, 8, 9, 16]), (205, [0, 1, 4, 5, 7, 8, 9, 16]), (216, [0, 1, 4, 6, 16]), (217, [0, 1, 2, 3, 8, 9, 14, 34]), (218, [0, 1, 2, 3, 4, 10, 11, 12, 13, 14, 15, 16, 17, 18, 19, 20, 21, 22, 23, 24, 28, 33, 50, 58, 80, 85, 103, 110, 140, 151, 171, 185, 199, 213]), (219, [0, 1, 2, 3, 8, 9, 16, 36, 52]), (220, [0, 2]), (221, [0, 2]), (222, [0, 1, 2, 6]), (223, [0, 1, 2, 3, 4, 10]), (228, [0, 1, 2, 3, 4, 10, 11, 20, 23]), (229, [0, 1, 2, 3, 8, 9, 18]), (231, [0, 1, 2, 3, 10, 13])]
def keepOf (f : Nat) : List Nat := match keepT.find? (fun p => Nat.beq p.1 f) with
  | some p => p.2
  | none => []
theorem closed_ok : FnL Tryz.prog 14 [] [] (vb true) [] := funE_sound (by kernel_rfl) 200 false 14 [] [] _ _ (by kernel_rfl : funE Tryz.prog keepOf 1000 200 false 14 [] [] = some (vb true, []))
theorem agraffelaw08_awake_ok (n : Nat) (r : Bool) (h : agraffelaw08_awake n = some r) : FnL Tryz.prog 14 [] [] (vb r) [] := by
  cases h
  exact closed_ok
theorem restore_isName_ok (n : Nat) (a0 : Str) (r : Bool) (h : restore_isName n a0 = some r) : FnL Tryz.prog 89 [vt a0] [] (vb r) [] := by
  dsimp only [restore_isName] at h
  refine FnL.ofS (ts := [2]) Tryz.call89 Tryz.func89 rfl rfl (Nat.le_of_ble_eq_true rfl) (Nat.le_of_ble_eq_true rfl) (fun j h => absurd h (Nat.not_lt_zero j)) ?_
  refine sr [(0, vt a0)] [] ?_
  refine TriE.seqK h (fun (_ : Unit) => St.mk [(0, vt a0)] []) ?_ ?_
  · rintro ⟨⟩ h
    refine sj ?_
    refine rn 3 [(0, vt a0), (49, vb (!(a0 == ([] : Str))))] [] ?_
    refine RegJ.op (Op1.valk (v := vt a0) _ _ (cy (IG 50 (.mov (.t 0)) 49 true)) rfl (by kernel_rfl) (fun hg => (.cons rfl .nil))) ?_
    refine RegJ.op (Op1.valg (v := vi (a0.length : Int)) _ _ (cy (IG 51 (.len 1 (.t 50)) 49 true)) rfl (fun hg => (ok_len_t rfl)) (fun hg => (.cons hg .nil))) ?_
    refine RegJ.op (Op1.valg (v := vb (decide (a0.length ≤ 12))) _ _ (cy (IG 52 (.bin .leq false (.t 51) (.c (.p (.int .i64 12)))) 49 true)) rfl (fun hg => (n_leq (i := a0.length) (j := 12) rfl rfl)) (fun hg => (.cons hg (.cons rfl .nil)))) ?_
    refine RegJ.op (Op1.and (cy (I0 53 (.pick (.t 49) (.t 52) (.c (.p (.bool false)))))) rfl rfl (by first | exact hokA1 | exact hokA0 | simp)) ?_
    refine jq 1 [(2, vb ((!(a0 == ([] : Str))) && (decide (a0.length ≤ 12))))] [] ?_
    refine TriE.ret ?_
    have h := Option.some.inj h
    subst h
    exact DoneS.ret (S' := ⟨[(2, vb ((!(a0 == ([] : Str))) && (decide (a0.length ≤ 12))))], []⟩) Sees.refl rfl rfl
  intro k1 h
  refine sj ?_
  refine rn 1 [(0, vt a0), (6, vt a0)] [] ?_
  refine RegJ.op (Op1.bytes (s := ⟨⟨a0⟩⟩) _ (cy (I0 7 (.bytes (.t 6)))) rfl (.cons rfl .nil)) ?_
  refine jv (vi (a0.length : Int)) (cy (I0 8 (.len 0 (.t 7)))) (ok_len_m rfl) rfl ?_
  refine jq 1 [(0, vt a0), (7, eS 1 vbyte a0), (8, vi (a0.length : Int)), (9, vi 0)] [] ?_
  refine TriE.block ?_
  refine TriE.sees (S' := ⟨[(0, vt a0), (7, eS 1 vbyte a0), (8, vi (a0.length : Int)), (9, vi 0)], []⟩) sy ?_
  refine TriE.loopN h (fun (v1 : Nat) => St.mk [(0, vt a0), (7, eS 1 vbyte a0), (8, vi (a0.length : Int)), (9, vi v1)] []) rfl ?_
  clear h
  rintro back v1 h
  dsimp only [restore_isName_L1] at h
  refine sj ?_
  refine jv (vb (decide (v1 < a0.length))) (cy (I0 10 (.bin .lss false (.t 9) (.t 8)))) (n_lss (i := v1) (j := a0.length) rfl rfl) rfl ?_
  refine jp [(0, vt a0), (7, eS 1 vbyte a0), (8, vi (a0.length : Int)), (9, vi v1), (10, vb (decide (v1 < a0.length)))] ?_
  refine TriE.seq ?_
  refine TriE.cond (b := decide (v1 < a0.length)) rfl (fun c1 => ?_) (fun c1 => ?_)
  · have h := cond_t h c1
    refine TriE.skip ?_
    refine TriE.seq ?_
    refine TriE.block ?_
    refine sj ?_
    refine rn 1 [(0, vt a0), (7, eS 1 vbyte a0), (8, vi (a0.length : Int)), (9, vi v1), (11, vi v1)] [] ?_
    refine jv (.fptr 1 (List.map vbyte a0) v1 0) (cy (I0 12 (.iaddr 1 (.t 7) (.t 9)))) (ok_iaddr_m (j := v1) rfl rfl rfl c1) rfl ?_
    refine jv (vk .u8 (((ix a0 v1).toNat : Nat) : Int)) (cy (I0 13 (.load false 1 (.t 12)))) (ok_load_fm (v := vk .u8 (((ix a0 v1).toNat : Nat) : Int)) rfl c1 rfl) rfl ?_
    refine jq 2 [(0, vt a0), (7, eS 1 vbyte a0), (8, vi (a0.length : Int)), (9, vi v1), (3, vi v1), (4, vk .u8 (((ix a0 v1).toNat : Nat) : Int))] [] ?_
    refine sj ?_
    refine rn 3 [(0, vt a0), (7, eS 1 vbyte a0), (8, vi (a0.length : Int)), (9, vi v1), (3, vi v1), (4, vk .u8 (((ix a0 v1).toNat : Nat) : Int)), (16, vb (decide ((97 : Int) ≤ (((ix a0 v1).toNat : Nat) : Int))))] [] ?_
    refine RegJ.op (Op1.valk (v := vk .u8 (((ix a0 v1).toNat : Nat) : Int)) _ _ (cy (IG 17 (.mov (.t 4)) 16 true)) rfl (by kernel_rfl) (fun hg => (.cons rfl .nil))) ?_
    refine RegJ.op (Op1.valk (v := vb (decide ((((ix a0 v1).toNat : Nat) : Int) ≤ (122 : Int)))) _ _ (cy (IG 18 (.bin .leq false (.t 17) (.c (.p (.int .u8 122)))) 16 true)) rfl (by kernel_rfl) (fun hg => (.cons hg (.cons rfl .nil)))) ?_
    refine RegJ.op (Op1.and (cy (I0 19 (.pick (.t 16) (.t 18) (.c (.p (.bool false)))))) rfl rfl (by first | exact hokA1 | exact hokA0 | simp)) ?_
    refine rn 1 [(0, vt a0), (7, eS 1 vbyte a0), (8, vi (a0.length : Int)), (9, vi v1), (3, vi v1), (4, vk .u8 (((ix a0 v1).toNat : Nat) : Int)), (17, .cond (decide ((97 : Int) ≤ (((ix a0 v1).toNat : Nat) : Int))) (vk .u8 (((ix a0 v1).toNat : Nat) : Int))), (18, .cond (decide ((97 : Int) ≤ (((ix a0 v1).toNat : Nat) : Int))) (vb (decide ((((ix a0 v1).toNat : Nat) : Int) ≤ (122 : Int))))), (20, vb ((decide ((97 : Int) ≤ (((ix a0 v1).toNat : Nat) : Int))) && (decide ((((ix a0 v1).toNat : Nat) : Int) ≤ (122 : Int)))))] [] ?_
    refine RegJ.op (Op1.valk (v := vk .u8 (((ix a0 v1).toNat : Nat) : Int)) _ _ (cy (IG 21 (.mov (.t 4)) 20 false)) rfl (by kernel_rfl) (fun hg => (.cons rfl .nil))) ?_
    refine RegJ.op (Op1.valk (v := vb (decide ((65 : Int) ≤ (((ix a0 v1).toNat : Nat) : Int)))) _ _ (cy (IG 22 (.bin .geq false (.t 21) (.c (.p (.int .u8 65)))) 20 false)) rfl (by kernel_rfl) (fun hg => (.cons hg (.cons rfl .nil)))) ?_
    refine RegJ.op (Op1.valk (v := vb (decide ((65 : Int) ≤ (((ix a0 v1).toNat : Nat) : Int)))) _ _ (cy (IG 23 (.mov (.t 22)) 20 false)) rfl (by kernel_rfl) (fun hg => (.cons hg .nil))) ?_
    refine RegJ.op (Op1.valk (v := vk .u8 (((ix a0 v1).toNat : Nat) : Int)) _ _ (cy (IG 24 (.mov (.t 4)) 23 true)) rfl (by kernel_rfl) (fun hg => (.cons rfl .nil))) ?_
    refine RegJ.op (Op1.valk (v := vb (decide ((((ix a0 v1).toNat : Nat) : Int) ≤ (90 : Int)))) _ _ (cy (IG 25 (.bin .leq false (.t 24) (.c (.p (.int .u8 90)))) 23 true)) rfl (by kernel_rfl) (fun hg => (.cons hg (.cons rfl .nil)))) ?_
    refine RegJ.op (Op1.andg (g := !((decide ((97 : Int) ≤ (((ix a0 v1).toNat : Nat) : Int))) && (decide ((((ix a0 v1).toNat : Nat) : Int) ≤ (122 : Int))))) (cy (IG 26 (.pick (.t 23) (.t 25) (.c (.p (.bool false)))) 20 false)) rfl rfl rfl (fun hg => by first | exact hokA2 hg | exact hokA3 hg | exact hokA1 | exact hokA0 | (rw [hg]; simp) | simp_all)) ?_
    refine RegJ.op (Op1.or (cy (I0 27 (.pick (.t 20) (.c (.p (.bool true))) (.t 26)))) rfl rfl (by first | exact hokO1 | exact hokO0 | simp)) ?_
    refine jq 1 [(0, vt a0), (7, eS 1 vbyte a0), (8, vi (a0.length : Int)), (9, vi v1), (3, vi v1), (4, vk .u8 (((ix a0 v1).toNat : Nat) : Int)), (5, vb (((decide ((97 : Int) ≤ (((ix a0 v1).toNat : Nat) : Int))) && (decide ((((ix a0 v1).toNat : Nat) : Int) ≤ (122 : Int)))) || ((decide ((65 : Int) ≤ (((ix a0 v1).toNat : Nat) : Int))) && (decide ((((ix a0 v1).toNat : Nat) : Int) ≤ (90 : Int))))))] [] ?_
    refine sj ?_
    refine rn 3 [(0, vt a0), (7, eS 1 vbyte a0), (8, vi (a0.length : Int)), (9, vi v1), (3, vi v1), (4, vk .u8 (((ix a0 v1).toNat : Nat) : Int)), (30, vb (!(((decide ((97 : Int) ≤ (((ix a0 v1).toNat : Nat) : Int))) && (decide ((((ix a0 v1).toNat : Nat) : Int) ≤ (122 : Int)))) || ((decide ((65 : Int) ≤ (((ix a0 v1).toNat : Nat) : Int))) && (decide ((((ix a0 v1).toNat : Nat) : Int) ≤ (90 : Int)))))))] [] ?_
    refine RegJ.op (Op1.valk (v := vi v1) _ _ (cy (IG 31 (.mov (.t 3)) 30 true)) rfl (by kernel_rfl) (fun hg => (.cons rfl .nil))) ?_
    refine RegJ.op (Op1.valg (v := vb (decide (v1 = 0))) _ _ (cy (IG 32 (.bin .eql false (.t 31) (.c (.p (.int .i64 0)))) 30 true)) rfl (fun hg => (n_eql (i := v1) (j := 0) rfl rfl)) (fun hg => (.cons hg (.cons rfl .nil)))) ?_
    refine RegJ.op (Op1.valk (v := vb (decide (v1 = 0))) _ _ (cy (IG 33 (.mov (.t 32)) 30 true)) rfl (by kernel_rfl) (fun hg => (.cons hg .nil))) ?_
    refine RegJ.op (Op1.valk (v := vk .u8 (((ix a0 v1).toNat : Nat) : Int)) _ _ (cy (IG 34 (.mov (.t 4)) 33 false)) rfl (by kernel_rfl) (fun hg => (.cons rfl .nil))) ?_
    refine RegJ.op (Op1.valk (v := vb ((((ix a0 v1).toNat : Nat) : Int) != (45 : Int))) _ _ (cy (IG 35 (.bin .neq false (.t 34) (.c (.p (.int .u8 45)))) 33 false)) rfl (by kernel_rfl) (fun hg => (.cons hg (.cons rfl .nil)))) ?_
    refine RegJ.op (Op1.valk (v := vb ((((ix a0 v1).toNat : Nat) : Int) != (45 : Int))) _ _ (cy (IG 36 (.mov (.t 35)) 33 false)) rfl (by kernel_rfl) (fun hg => (.cons hg .nil))) ?_
    refine RegJ.op (Op1.valk (v := vk .u8 (((ix a0 v1).toNat : Nat) : Int)) _ _ (cy (IG 37 (.mov (.t 4)) 36 true)) rfl (by kernel_rfl) (fun hg => (.cons rfl .nil))) ?_
    refine RegJ.op (Op1.valk (v := vb (decide ((((ix a0 v1).toNat : Nat) : Int) < (48 : Int)))) _ _ (cy (IG 38 (.bin .lss false (.t 37) (.c (.p (.int .u8 48)))) 36 true)) rfl (by kernel_rfl) (fun hg => (.cons hg (.cons rfl .nil)))) ?_
    refine RegJ.op (Op1.valk (v := vb (decide ((((ix a0 v1).toNat : Nat) : Int) < (48 : Int)))) _ _ (cy (IG 39 (.mov (.t 38)) 36 true)) rfl (by kernel_rfl) (fun hg => (.cons hg .nil))) ?_
    refine RegJ.op (Op1.valk (v := vk .u8 (((ix a0 v1).toNat : Nat) : Int)) _ _ (cy (IG 40 (.mov (.t 4)) 39 false)) rfl (by kernel_rfl) (fun hg => (.cons rfl .nil))) ?_
    refine RegJ.op (Op1.valk (v := vb (decide ((57 : Int) < (((ix a0 v1).toNat : Nat) : Int)))) _ _ (cy (IG 41 (.bin .gtr false (.t 40) (.c (.p (.int .u8 57)))) 39 false)) rfl (by kernel_rfl) (fun hg => (.cons hg (.cons rfl .nil)))) ?_
    refine RegJ.op (Op1.org (g := ((!(((decide ((97 : Int) ≤ (((ix a0 v1).toNat : Nat) : Int))) && (decide ((((ix a0 v1).toNat : Nat) : Int) ≤ (122 : Int)))) || ((decide ((65 : Int) ≤ (((ix a0 v1).toNat : Nat) : Int))) && (decide ((((ix a0 v1).toNat : Nat) : Int) ≤ (90 : Int)))))) && !(decide (v1 = 0))) && ((((ix a0 v1).toNat : Nat) : Int) != (45 : Int))) (cy (IG 42 (.pick (.t 39) (.c (.p (.bool true))) (.t 41)) 36 true)) rfl rfl rfl (fun hg => by first | exact hokO2 hg | exact hokO3 hg | exact hokO1 | exact hokO0 | (rw [hg]; simp) | simp_all)) ?_
    refine RegJ.op (Op1.andg (g := (!(((decide ((97 : Int) ≤ (((ix a0 v1).toNat : Nat) : Int))) && (decide ((((ix a0 v1).toNat : Nat) : Int) ≤ (122 : Int)))) || ((decide ((65 : Int) ≤ (((ix a0 v1).toNat : Nat) : Int))) && (decide ((((ix a0 v1).toNat : Nat) : Int) ≤ (90 : Int)))))) && !(decide (v1 = 0))) (cy (IG 43 (.pick (.t 36) (.t 42) (.c (.p (.bool false)))) 33 false)) rfl rfl rfl (fun hg => by first | exact hokA2 hg | exact hokA3 hg | exact hokA1 | exact hokA0 | (rw [hg]; simp) | simp_all)) ?_
    refine RegJ.op (Op1.org (g := !(((decide ((97 : Int) ≤ (((ix a0 v1).toNat : Nat) : Int))) && (decide ((((ix a0 v1).toNat : Nat) : Int) ≤ (122 : Int)))) || ((decide ((65 : Int) ≤ (((ix a0 v1).toNat : Nat) : Int))) && (decide ((((ix a0 v1).toNat : Nat) : Int) ≤ (90 : Int)))))) (cy (IG 44 (.pick (.t 33) (.c (.p (.bool true))) (.t 43)) 30 true)) rfl rfl rfl (fun hg => by first | exact hokO2 hg | exact hokO3 hg | exact hokO1 | exact hokO0 | (rw [hg]; simp) | simp_all)) ?_
    refine RegJ.op (Op1.and (cy (I0 45 (.pick (.t 30) (.t 44) (.c (.p (.bool false)))))) rfl rfl (by first | exact hokA1 | exact hokA0 | simp)) ?_
    refine jp [(0, vt a0), (7, eS 1 vbyte a0), (8, vi (a0.length : Int)), (9, vi v1), (45, vb ((!(((decide ((97 : Int) ≤ (((ix a0 v1).toNat : Nat) : Int))) && (decide ((((ix a0 v1).toNat : Nat) : Int) ≤ (122 : Int)))) || ((decide ((65 : Int) ≤ (((ix a0 v1).toNat : Nat) : Int))) && (decide ((((ix a0 v1).toNat : Nat) : Int) ≤ (90 : Int)))))) && ((decide (v1 = 0)) || (((((ix a0 v1).toNat : Nat) : Int) != (45 : Int)) && ((decide ((((ix a0 v1).toNat : Nat) : Int) < (48 : Int))) || (decide ((57 : Int) < (((ix a0 v1).toNat : Nat) : Int))))))))] ?_
    refine TriE.cond (b := (!(((decide ((97 : Int) ≤ (((ix a0 v1).toNat : Nat) : Int))) && (decide ((((ix a0 v1).toNat : Nat) : Int) ≤ (122 : Int)))) || ((decide ((65 : Int) ≤ (((ix a0 v1).toNat : Nat) : Int))) && (decide ((((ix a0 v1).toNat : Nat) : Int) ≤ (90 : Int)))))) && ((decide (v1 = 0)) || (((((ix a0 v1).toNat : Nat) : Int) != (45 : Int)) && ((decide ((((ix a0 v1).toNat : Nat) : Int) < (48 : Int))) || (decide ((57 : Int) < (((ix a0 v1).toNat : Nat) : Int))))))) rfl (fun c2 => ?_) (fun c2 => ?_)
    · have h := cond_t h c2
      refine sr [(2, vb false)] [] ?_
      refine TriE.ret ?_
      have h := Option.some.inj h
      subst h
      exact DoneS.ret (S' := ⟨[(2, vb false)], []⟩) Sees.refl rfl rfl
    have h := cond_f h c2
    refine TriE.skip ?_
    refine TriE.regJ ?_
    obtain ⟨c3, h⟩ := chk_some h
    refine jv (vi ((v1 + 1 : Nat) : Int)) (cy (I0 46 (.bin .add false (.t 9) (.c (.p (.int .i64 1)))))) (r_addn (i := v1) (j := 1) rfl rfl c3) rfl ?_
    refine jq 1 [(0, vt a0), (7, eS 1 vbyte a0), (8, vi (a0.length : Int)), (9, vi ((v1 + 1 : Nat) : Int))] [] ?_
    exact Vs.intro sy ⟨(v1 + 1), rfl, h⟩
  have h := cond_f h c1
  refine TriE.exit ?_
  exact Vs.intro sy ⟨(), rfl, h⟩
theorem restore_within_ok (n : Nat) (a0 : Int) (a1 : Int) (a2 : Int) (r : Unit) (h : restore_within n a0 a1 a2 = some r) : FnL Tryz.prog 91 [vi a0, vi a1, vi a2] [] (vb ((decide (a1 ≤ a0)) && (decide (a0 ≤ a2)))) [] := by
  dsimp only [restore_within] at h
  refine FnL.ofS (ts := [6]) Tryz.call91 Tryz.func91 rfl rfl (Nat.le_of_ble_eq_true rfl) (Nat.le_of_ble_eq_true rfl) (fun j h => absurd h (Nat.not_lt_zero j)) ?_
  refine sr [(0, vi a0), (1, vi a1), (2, vi a2)] [] ?_
  refine sj ?_
  refine rn 4 [(0, vi a0), (2, vi a2), (10, vb (decide (a1 ≤ a0)))] [] ?_
  refine RegJ.op (Op1.valk (v := vi a0) _ _ (cy (IG 11 (.mov (.t 0)) 10 true)) rfl (by kernel_rfl) (fun hg => (.cons rfl .nil))) ?_
  refine RegJ.op (Op1.valk (v := vi a2) _ _ (cy (IG 12 (.mov (.t 2)) 10 true)) rfl (by kernel_rfl) (fun hg => (.cons rfl .nil))) ?_
  refine RegJ.op (Op1.valk (v := vb (decide (a0 ≤ a2))) _ _ (cy (IG 13 (.bin .leq false (.t 11) (.t 12)) 10 true)) rfl (by kernel_rfl) (fun hg => (.cons hg (.cons hg .nil)))) ?_
  refine RegJ.op (Op1.and (cy (I0 14 (.pick (.t 10) (.t 13) (.c (.p (.bool false)))))) rfl rfl (by first | exact hokA1 | exact hokA0 | simp)) ?_
  refine jq 1 [(6, vb ((decide (a1 ≤ a0)) && (decide (a0 ≤ a2))))] [] ?_
  refine TriE.ret ?_
  have h := Option.some.inj h
  subst h
  exact DoneS.ret (S' := ⟨[(6, vb ((decide (a1 ≤ a0)) && (decide (a0 ≤ a2))))], []⟩) Sees.refl rfl rfl
theorem agraffebase_isLetter_ok (n : Nat) (a0 : Int) (r : Unit) (h : agraffebase_isLetter n a0 = some r) : FnL Tryz.prog 159 [vk .u8 a0] [] (vb (((decide ((97 : Int) ≤ a0)) && (decide (a0 ≤ (122 : Int)))) || ((decide ((65 : Int) ≤ a0)) && (decide (a0 ≤ (90 : Int)))))) [] := by
  dsimp only [agraffebase_isLetter] at h
  refine FnL.ofS (ts := [2]) Tryz.call159 Tryz.func159 rfl rfl (Nat.le_of_ble_eq_true rfl) (Nat.le_of_ble_eq_true rfl) (fun j h => absurd h (Nat.not_lt_zero j)) ?_
  refine sr [(0, vk .u8 a0)] [] ?_
  refine sj ?_
  refine rn 3 [(0, vk .u8 a0), (5, vb (decide ((97 : Int) ≤ a0)))] [] ?_
  refine RegJ.op (Op1.valk (v := vk .u8 a0) _ _ (cy (IG 6 (.mov (.t 0)) 5 true)) rfl (by kernel_rfl) (fun hg => (.cons rfl .nil))) ?_
  refine RegJ.op (Op1.valk (v := vb (decide (a0 ≤ (122 : Int)))) _ _ (cy (IG 7 (.bin .leq false (.t 6) (.c (.p (.int .u8 122)))) 5 true)) rfl (by kernel_rfl) (fun hg => (.cons hg (.cons rfl .nil)))) ?_
  refine RegJ.op (Op1.and (cy (I0 8 (.pick (.t 5) (.t 7) (.c (.p (.bool false)))))) rfl rfl (by first | exact hokA1 | exact hokA0 | simp)) ?_
  refine rn 1 [(0, vk .u8 a0), (9, vb ((decide ((97 : Int) ≤ a0)) && (decide (a0 ≤ (122 : Int)))))] [] ?_
  refine RegJ.op (Op1.valk (v := vk .u8 a0) _ _ (cy (IG 10 (.mov (.t 0)) 9 false)) rfl (by kernel_rfl) (fun hg => (.cons rfl .nil))) ?_
  refine RegJ.op (Op1.valk (v := vb (decide ((65 : Int) ≤ a0))) _ _ (cy (IG 11 (.bin .geq false (.t 10) (.c (.p (.int .u8 65)))) 9 false)) rfl (by kernel_rfl) (fun hg => (.cons hg (.cons rfl .nil)))) ?_
  refine RegJ.op (Op1.valk (v := vb (decide ((65 : Int) ≤ a0))) _ _ (cy (IG 12 (.mov (.t 11)) 9 false)) rfl (by kernel_rfl) (fun hg => (.cons hg .nil))) ?_
  refine RegJ.op (Op1.valk (v := vk .u8 a0) _ _ (cy (IG 13 (.mov (.t 0)) 12 true)) rfl (by kernel_rfl) (fun hg => (.cons rfl .nil))) ?_
  refine RegJ.op (Op1.valk (v := vb (decide (a0 ≤ (90 : Int)))) _ _ (cy (IG 14 (.bin .leq false (.t 13) (.c (.p (.int .u8 90)))) 12 true)) rfl (by kernel_rfl) (fun hg => (.cons hg (.cons rfl .nil)))) ?_
  refine RegJ.op (Op1.andg (g := !((decide ((97 : Int) ≤ a0)) && (decide (a0 ≤ (122 : Int))))) (cy (IG 15 (.pick (.t 12) (.t 14) (.c (.p (.bool false)))) 9 false)) rfl rfl rfl (fun hg => by first | exact hokA2 hg | exact hokA3 hg | exact hokA1 | exact hokA0 | (rw [hg]; simp) | simp_all)) ?_
  refine RegJ.op (Op1.or (cy (I0 16 (.pick (.t 9) (.c (.p (.bool true))) (.t 15)))) rfl rfl (by first | exact hokO1 | exact hokO0 | simp)) ?_
  refine jq 1 [(2, vb (((decide ((97 : Int) ≤ a0)) && (decide (a0 ≤ (122 : Int)))) || ((decide ((65 : Int) ≤ a0)) && (decide (a0 ≤ (90 : Int))))))] [] ?_
  refine TriE.ret ?_
  have h := Option.some.inj h
  subst h
  exact DoneS.ret (S' := ⟨[(2, vb (((decide ((97 : Int) ≤ a0)) && (decide (a0 ≤ (122 : Int)))) || ((decide ((65 : Int) ≤ a0)) && (decide (a0 ≤ (90 : Int))))))], []⟩) Sees.refl rfl rfl
theorem agraffebase_isDigit_ok (n : Nat) (a0 : Int) (r : Unit) (h : agraffebase_isDigit n a0 = some r) : FnL Tryz.prog 160 [vk .u8 a0] [] (vb ((decide ((48 : Int) ≤ a0)) && (decide (a0 ≤ (57 : Int))))) [] := by
  dsimp only [agraffebase_isDigit] at h
  refine FnL.ofS (ts := [2]) Tryz.call160 Tryz.func160 rfl rfl (Nat.le_of_ble_eq_true rfl) (Nat.le_of_ble_eq_true rfl) (fun j h => absurd h (Nat.not_lt_zero j)) ?_
  refine sr [(0, vk .u8 a0)] [] ?_
  refine sj ?_
  refine rn 3 [(0, vk .u8 a0), (5, vb (decide ((48 : Int) ≤ a0)))] [] ?_
  refine RegJ.op (Op1.valk (v := vk .u8 a0) _ _ (cy (IG 6 (.mov (.t 0)) 5 true)) rfl (by kernel_rfl) (fun hg => (.cons rfl .nil))) ?_
  refine RegJ.op (Op1.valk (v := vb (decide (a0 ≤ (57 : Int)))) _ _ (cy (IG 7 (.bin .leq false (.t 6) (.c (.p (.int .u8 57)))) 5 true)) rfl (by kernel_rfl) (fun hg => (.cons hg (.cons rfl .nil)))) ?_
  refine RegJ.op (Op1.and (cy (I0 8 (.pick (.t 5) (.t 7) (.c (.p (.bool false)))))) rfl rfl (by first | exact hokA1 | exact hokA0 | simp)) ?_
  refine jq 1 [(2, vb ((decide ((48 : Int) ≤ a0)) && (decide (a0 ≤ (57 : Int)))))] [] ?_
  refine TriE.ret ?_
  have h := Option.some.inj h
  subst h
  exact DoneS.ret (S' := ⟨[(2, vb ((decide ((48 : Int) ≤ a0)) && (decide (a0 ≤ (57 : Int)))))], []⟩) Sees.refl rfl rfl
theorem agraffebase_IsName_ok (n : Nat) (a0 : Str) (r : Bool) (h : agraffebase_IsName n a0 = some r) : FnL Tryz.prog 92 [vt a0] [] (vb r) [] := by
  dsimp only [agraffebase_IsName] at h
  refine FnL.ofS (ts := [2]) Tryz.call92 Tryz.func92 rfl rfl (Nat.le_of_ble_eq_true rfl) (Nat.le_of_ble_eq_true rfl) (fun j h => absurd h (Nat.not_lt_zero j)) ?_
  refine sr [(0, vt a0)] [] ?_
  refine TriE.seq ?_
  refine sj ?_
  refine rn 1 [(0, vt a0), (4, vt a0)] [] ?_
  refine jv (vi (a0.length : Int)) (cy (I0 5 (.len 1 (.t 4)))) (ok_len_t rfl) rfl ?_
  refine jv (vb (decide (a0.length = 0))) (cy (I0 6 (.bin .eql false (.t 5) (.c (.p (.int .i64 0)))))) (n_eql (i := a0.length) (j := 0) rfl rfl) rfl ?_
  refine rn 1 [(0, vt a0), (7, vb (decide (a0.length = 0)))] [] ?_
  refine RegJ.op (Op1.valk (v := vt a0) _ _ (cy (IG 8 (.mov (.t 0)) 7 false)) rfl (by kernel_rfl) (fun hg => (.cons rfl .nil))) ?_
  refine RegJ.op (Op1.valg (v := vi (a0.length : Int)) _ _ (cy (IG 9 (.len 1 (.t 8)) 7 false)) rfl (fun hg => (ok_len_t rfl)) (fun hg => (.cons hg .nil))) ?_
  refine RegJ.op (Op1.valg (v := vb (decide (12 < a0.length))) _ _ (cy (IG 10 (.bin .gtr false (.t 9) (.c (.p (.int .i64 12)))) 7 false)) rfl (fun hg => (n_gtr (i := a0.length) (j := 12) rfl rfl)) (fun hg => (.cons hg (.cons rfl .nil)))) ?_
  refine RegJ.op (Op1.or (cy (I0 11 (.pick (.t 7) (.c (.p (.bool true))) (.t 10)))) rfl rfl (by first | exact hokO1 | exact hokO0 | simp)) ?_
  refine rn 1 [(0, vt a0), (12, vb ((decide (a0.length = 0)) || (decide (12 < a0.length))))] [] ?_
  refine RegJ.op (Op1.valk (v := vt a0) _ _ (cy (IG 13 (.mov (.t 0)) 12 false)) rfl (by kernel_rfl) (fun hg => (.cons rfl .nil))) ?_
  obtain ⟨c1, h⟩ := chk_some h
  refine RegJ.op (Op1.valg (v := vk .u8 (((List.getD a0 0 0).toNat : Nat) : Int)) _ _ (cy (IG 14 (.sidx (.t 13) (.c (.p (.int .i64 0)))) 12 false)) rfl (fun hg => (ok_sidx_t (j := 0) rfl rfl rfl (gor c1 hg))) (fun hg => (.cons hg (.cons rfl .nil)))) ?_
  obtain ⟨y1, hy1, h⟩ := bind_some h
  refine RegJ.op (Op1.callg (g := !((decide (a0.length = 0)) || (decide (12 < a0.length)))) (y' := vb (((decide ((97 : Int) ≤ (((List.getD a0 0 0).toNat : Nat) : Int))) && (decide ((((List.getD a0 0 0).toNat : Nat) : Int) ≤ (122 : Int)))) || ((decide ((65 : Int) ≤ (((List.getD a0 0 0).toNat : Nat) : Int))) && (decide ((((List.getD a0 0 0).toNat : Nat) : Int) ≤ (90 : Int)))))) (obx := []) _ _ (cy (IG 15 (.call 159 [(.t 14)]) 12 false)) rfl (fun hg => agraffebase_isLetter_ok n (((List.getD a0 0 0).toNat : Nat) : Int) y1 (gcall_some hy1 hg)) [] (fun hg => by kernel_rfl) (fun hg => (.cons rfl (.cons hg .nil))) (by kernel_rfl) (by kernel_rfl) ObsRen.nil (by kernel_rfl) (by kernel_rfl)) ?_
  refine RegJ.op (Op1.valk (v := vb (!(((decide ((97 : Int) ≤ (((List.getD a0 0 0).toNat : Nat) : Int))) && (decide ((((List.getD a0 0 0).toNat : Nat) : Int) ≤ (122 : Int)))) || ((decide ((65 : Int) ≤ (((List.getD a0 0 0).toNat : Nat) : Int))) && (decide ((((List.getD a0 0 0).toNat : Nat) : Int) ≤ (90 : Int))))))) _ _ (cy (IG 16 (.un .not (.t 15)) 12 false)) rfl (by kernel_rfl) (fun hg => (.cons hg .nil))) ?_
  refine RegJ.op (Op1.or (cy (I0 17 (.pick (.t 12) (.c (.p (.bool true))) (.t 16)))) rfl rfl (by first | exact hokO1 | exact hokO0 | simp)) ?_
  refine jp [(0, vt a0), (17, vb (((decide (a0.length = 0)) || (decide (12 < a0.length))) || (!(((decide ((97 : Int) ≤ (((List.getD a0 0 0).toNat : Nat) : Int))) && (decide ((((List.getD a0 0 0).toNat : Nat) : Int) ≤ (122 : Int)))) || ((decide ((65 : Int) ≤ (((List.getD a0 0 0).toNat : Nat) : Int))) && (decide ((((List.getD a0 0 0).toNat : Nat) : Int) ≤ (90 : Int))))))))] ?_
  refine TriE.cond (b := ((decide (a0.length = 0)) || (decide (12 < a0.length))) || (!(((decide ((97 : Int) ≤ (((List.getD a0 0 0).toNat : Nat) : Int))) && (decide ((((List.getD a0 0 0).toNat : Nat) : Int) ≤ (122 : Int)))) || ((decide ((65 : Int) ≤ (((List.getD a0 0 0).toNat : Nat) : Int))) && (decide ((((List.getD a0 0 0).toNat : Nat) : Int) ≤ (90 : Int))))))) rfl (fun c2 => ?_) (fun c2 => ?_)
  · have h := cond_t h c2
    refine sr [(2, vb false)] [] ?_
    refine TriE.ret ?_
    have h := Option.some.inj h
    subst h
    exact DoneS.ret (S' := ⟨[(2, vb false)], []⟩) Sees.refl rfl rfl
  have h := cond_f h c2
  refine TriE.skip ?_
  refine TriE.seqK h (fun (_ : Unit) => St.mk [] []) ?_ ?_
  · rintro ⟨⟩ h
    refine sr [(2, vb true)] [] ?_
    refine TriE.ret ?_
    have h := Option.some.inj h
    subst h
    exact DoneS.ret (S' := ⟨[(2, vb true)], []⟩) Sees.refl rfl rfl
  intro k1 h
  refine sr [(0, vt a0), (3, vi 0)] [] ?_
  refine TriE.block ?_
  refine TriE.sees (S' := ⟨[(0, vt a0), (3, vi 0)], []⟩) sy ?_
  refine TriE.loopN h (fun (v4 : Nat) => St.mk [(0, vt a0), (3, vi v4)] []) rfl ?_
  clear h
  rintro back v4 h
  dsimp only [agraffebase_IsName_L1] at h
  refine TriE.seq ?_
  refine sj ?_
  refine rn 2 [(0, vt a0), (3, vi v4), (18, vi v4), (19, vt a0)] [] ?_
  refine jv (vi (a0.length : Int)) (cy (I0 20 (.len 1 (.t 19)))) (ok_len_t rfl) rfl ?_
  refine jv (vb (decide (v4 < a0.length))) (cy (I0 21 (.bin .lss false (.t 18) (.t 20)))) (n_lss (i := v4) (j := a0.length) rfl rfl) rfl ?_
  refine jp [(0, vt a0), (3, vi v4), (21, vb (decide (v4 < a0.length)))] ?_
  refine TriE.cond (b := decide (v4 < a0.length)) rfl (fun c3 => ?_) (fun c3 => ?_)
  · have h := cond_t h c3
    refine TriE.skip ?_
    refine TriE.seq ?_
    refine TriE.block ?_
    refine sj ?_
    refine rn 2 [(0, vt a0), (3, vi v4), (24, vt a0), (25, vi v4)] [] ?_
    refine jv (vk .u8 (((List.getD a0 v4 0).toNat : Nat) : Int)) (cy (I0 26 (.sidx (.t 24) (.t 25)))) (ok_sidx_t (j := v4) rfl rfl rfl c3) rfl ?_
    obtain ⟨y5, hy5, h⟩ := bind_some h
    refine RegJ.op (Op1.call (y' := vb (((decide ((97 : Int) ≤ (((List.getD a0 v4 0).toNat : Nat) : Int))) && (decide ((((List.getD a0 v4 0).toNat : Nat) : Int) ≤ (122 : Int)))) || ((decide ((65 : Int) ≤ (((List.getD a0 v4 0).toNat : Nat) : Int))) && (decide ((((List.getD a0 v4 0).toNat : Nat) : Int) ≤ (90 : Int)))))) (obx := []) (oby := []) (ob2 := []) _ _ (cy (I0 27 (.call 159 [(.t 26)]))) rfl (agraffebase_isLetter_ok n (((List.getD a0 v4 0).toNat : Nat) : Int) y5 hy5) [] (by kernel_rfl) (.cons rfl (.cons rfl .nil)) (by kernel_rfl) (by kernel_rfl) ObsRen.nil (by kernel_rfl) ObsRen.nil (by kernel_rfl)) ?_
    refine rn 2 [(0, vt a0), (3, vi v4), (29, vb (!(((decide ((97 : Int) ≤ (((List.getD a0 v4 0).toNat : Nat) : Int))) && (decide ((((List.getD a0 v4 0).toNat : Nat) : Int) ≤ (122 : Int)))) || ((decide ((65 : Int) ≤ (((List.getD a0 v4 0).toNat : Nat) : Int))) && (decide ((((List.getD a0 v4 0).toNat : Nat) : Int) ≤ (90 : Int)))))))] [] ?_
    refine RegJ.op (Op1.valk (v := vt a0) _ _ (cy (IG 30 (.mov (.t 0)) 29 true)) rfl (by kernel_rfl) (fun hg => (.cons rfl .nil))) ?_
    refine RegJ.op (Op1.valk (v := vi v4) _ _ (cy (IG 31 (.mov (.t 3)) 29 true)) rfl (by kernel_rfl) (fun hg => (.cons rfl .nil))) ?_
    refine RegJ.op (Op1.valg (v := vk .u8 (((List.getD a0 v4 0).toNat : Nat) : Int)) _ _ (cy (IG 32 (.sidx (.t 30) (.t 31)) 29 true)) rfl (fun hg => (ok_sidx_t (j := v4) rfl rfl rfl c3)) (fun hg => (.cons hg (.cons hg .nil)))) ?_
    obtain ⟨y6, hy6, h⟩ := bind_some h
    refine RegJ.op (Op1.callg (g := !(((decide ((97 : Int) ≤ (((List.getD a0 v4 0).toNat : Nat) : Int))) && (decide ((((List.getD a0 v4 0).toNat : Nat) : Int) ≤ (122 : Int)))) || ((decide ((65 : Int) ≤ (((List.getD a0 v4 0).toNat : Nat) : Int))) && (decide ((((List.getD a0 v4 0).toNat : Nat) : Int) ≤ (90 : Int)))))) (y' := vb ((decide ((48 : Int) ≤ (((List.getD a0 v4 0).toNat : Nat) : Int))) && (decide ((((List.getD a0 v4 0).toNat : Nat) : Int) ≤ (57 : Int))))) (obx := []) _ _ (cy (IG 33 (.call 160 [(.t 32)]) 29 true)) rfl (fun hg => agraffebase_isDigit_ok n (((List.getD a0 v4 0).toNat : Nat) : Int) y6 (gcall_some hy6 hg)) [] (fun hg => by kernel_rfl) (fun hg => (.cons rfl (.cons hg .nil))) (by kernel_rfl) (by kernel_rfl) ObsRen.nil (by kernel_rfl) (by kernel_rfl)) ?_
    refine RegJ.op (Op1.valk (v := vb (!((decide ((48 : Int) ≤ (((List.getD a0 v4 0).toNat : Nat) : Int))) && (decide ((((List.getD a0 v4 0).toNat : Nat) : Int) ≤ (57 : Int)))))) _ _ (cy (IG 34 (.un .not (.t 33)) 29 true)) rfl (by kernel_rfl) (fun hg => (.cons hg .nil))) ?_
    refine RegJ.op (Op1.and (cy (I0 35 (.pick (.t 29) (.t 34) (.c (.p (.bool false)))))) rfl rfl (by first | exact hokA1 | exact hokA0 | simp)) ?_
    refine rn 1 [(0, vt a0), (3, vi v4), (30, .cond (!(((decide ((97 : Int) ≤ (((List.getD a0 v4 0).toNat : Nat) : Int))) && (decide ((((List.getD a0 v4 0).toNat : Nat) : Int) ≤ (122 : Int)))) || ((decide ((65 : Int) ≤ (((List.getD a0 v4 0).toNat : Nat) : Int))) && (decide ((((List.getD a0 v4 0).toNat : Nat) : Int) ≤ (90 : Int)))))) (vt a0)), (31, .cond (!(((decide ((97 : Int) ≤ (((List.getD a0 v4 0).toNat : Nat) : Int))) && (decide ((((List.getD a0 v4 0).toNat : Nat) : Int) ≤ (122 : Int)))) || ((decide ((65 : Int) ≤ (((List.getD a0 v4 0).toNat : Nat) : Int))) && (decide ((((List.getD a0 v4 0).toNat : Nat) : Int) ≤ (90 : Int)))))) (vi v4)), (32, .cond (!(((decide ((97 : Int) ≤ (((List.getD a0 v4 0).toNat : Nat) : Int))) && (decide ((((List.getD a0 v4 0).toNat : Nat) : Int) ≤ (122 : Int)))) || ((decide ((65 : Int) ≤ (((List.getD a0 v4 0).toNat : Nat) : Int))) && (decide ((((List.getD a0 v4 0).toNat : Nat) : Int) ≤ (90 : Int)))))) (vk .u8 (((List.getD a0 v4 0).toNat : Nat) : Int))), (33, .cond (!(((decide ((97 : Int) ≤ (((List.getD a0 v4 0).toNat : Nat) : Int))) && (decide ((((List.getD a0 v4 0).toNat : Nat) : Int) ≤ (122 : Int)))) || ((decide ((65 : Int) ≤ (((List.getD a0 v4 0).toNat : Nat) : Int))) && (decide ((((List.getD a0 v4 0).toNat : Nat) : Int) ≤ (90 : Int)))))) (vb ((decide ((48 : Int) ≤ (((List.getD a0 v4 0).toNat : Nat) : Int))) && (decide ((((List.getD a0 v4 0).toNat : Nat) : Int) ≤ (57 : Int)))))), (34, .cond (!(((decide ((97 : Int) ≤ (((List.getD a0 v4 0).toNat : Nat) : Int))) && (decide ((((List.getD a0 v4 0).toNat : Nat) : Int) ≤ (122 : Int)))) || ((decide ((65 : Int) ≤ (((List.getD a0 v4 0).toNat : Nat) : Int))) && (decide ((((List.getD a0 v4 0).toNat : Nat) : Int) ≤ (90 : Int)))))) (vb (!((decide ((48 : Int) ≤ (((List.getD a0 v4 0).toNat : Nat) : Int))) && (decide ((((List.getD a0 v4 0).toNat : Nat) : Int) ≤ (57 : Int))))))), (36, vb ((!(((decide ((97 : Int) ≤ (((List.getD a0 v4 0).toNat : Nat) : Int))) && (decide ((((List.getD a0 v4 0).toNat : Nat) : Int) ≤ (122 : Int)))) || ((decide ((65 : Int) ≤ (((List.getD a0 v4 0).toNat : Nat) : Int))) && (decide ((((List.getD a0 v4 0).toNat : Nat) : Int) ≤ (90 : Int)))))) && (!((decide ((48 : Int) ≤ (((List.getD a0 v4 0).toNat : Nat) : Int))) && (decide ((((List.getD a0 v4 0).toNat : Nat) : Int) ≤ (57 : Int)))))))] [] ?_
    refine RegJ.op (Op1.valk (v := vt a0) _ _ (cy (IG 37 (.mov (.t 0)) 36 true)) rfl (by kernel_rfl) (fun hg => (.cons rfl .nil))) ?_
    refine RegJ.op (Op1.valk (v := vi v4) _ _ (cy (IG 38 (.mov (.t 3)) 36 true)) rfl (by kernel_rfl) (fun hg => (.cons rfl .nil))) ?_
    refine RegJ.op (Op1.valg (v := vk .u8 (((List.getD a0 v4 0).toNat : Nat) : Int)) _ _ (cy (IG 39 (.sidx (.t 37) (.t 38)) 36 true)) rfl (fun hg => (ok_sidx_t (j := v4) rfl rfl rfl c3)) (fun hg => (.cons hg (.cons hg .nil)))) ?_
    refine RegJ.op (Op1.valk (v := vb ((((List.getD a0 v4 0).toNat : Nat) : Int) != (45 : Int))) _ _ (cy (IG 40 (.bin .neq false (.t 39) (.c (.p (.int .u8 45)))) 36 true)) rfl (by kernel_rfl) (fun hg => (.cons hg (.cons rfl .nil)))) ?_
    refine RegJ.op (Op1.and (cy (I0 41 (.pick (.t 36) (.t 40) (.c (.p (.bool false)))))) rfl rfl (by first | exact hokA1 | exact hokA0 | simp)) ?_
    refine jp [(0, vt a0), (3, vi v4), (41, vb (((!(((decide ((97 : Int) ≤ (((List.getD a0 v4 0).toNat : Nat) : Int))) && (decide ((((List.getD a0 v4 0).toNat : Nat) : Int) ≤ (122 : Int)))) || ((decide ((65 : Int) ≤ (((List.getD a0 v4 0).toNat : Nat) : Int))) && (decide ((((List.getD a0 v4 0).toNat : Nat) : Int) ≤ (90 : Int)))))) && (!((decide ((48 : Int) ≤ (((List.getD a0 v4 0).toNat : Nat) : Int))) && (decide ((((List.getD a0 v4 0).toNat : Nat) : Int) ≤ (57 : Int)))))) && ((((List.getD a0 v4 0).toNat : Nat) : Int) != (45 : Int))))] ?_
    refine TriE.cond (b := ((!(((decide ((97 : Int) ≤ (((List.getD a0 v4 0).toNat : Nat) : Int))) && (decide ((((List.getD a0 v4 0).toNat : Nat) : Int) ≤ (122 : Int)))) || ((decide ((65 : Int) ≤ (((List.getD a0 v4 0).toNat : Nat) : Int))) && (decide ((((List.getD a0 v4 0).toNat : Nat) : Int) ≤ (90 : Int)))))) && (!((decide ((48 : Int) ≤ (((List.getD a0 v4 0).toNat : Nat) : Int))) && (decide ((((List.getD a0 v4 0).toNat : Nat) : Int) ≤ (57 : Int)))))) && ((((List.getD a0 v4 0).toNat : Nat) : Int) != (45 : Int))) rfl (fun c4 => ?_) (fun c4 => ?_)
    · have h := cond_t h c4
      refine sr [(2, vb false)] [] ?_
      refine TriE.ret ?_
      have h := Option.some.inj h
      subst h
      exact DoneS.ret (S' := ⟨[(2, vb false)], []⟩) Sees.refl rfl rfl
    have h := cond_f h c4
    refine TriE.skip ?_
    refine TriE.regJ ?_
    refine rn 1 [(0, vt a0), (22, vi v4)] [] ?_
    obtain ⟨c5, h⟩ := chk_some h
    refine jv (vi ((v4 + 1 : Nat) : Int)) (cy (I0 23 (.bin .add false (.t 22) (.c (.p (.int .i64 1)))))) (r_addn (i := v4) (j := 1) rfl rfl c5) rfl ?_
    refine jq 1 [(0, vt a0), (3, vi ((v4 + 1 : Nat) : Int))] [] ?_
    exact Vs.intro sy ⟨(v4 + 1), rfl, h⟩
  have h := cond_f h c3
  refine TriE.exit ?_
  exact Vs.intro sy ⟨(), rfl, h⟩
theorem agraffebase_Within_ok (n : Nat) (a0 : Int) (a1 : Int) (a2 : Int) (r : Unit) (h : agraffebase_Within n a0 a1 a2 = some r) : FnL Tryz.prog 93 [vi a0, vi a1, vi a2] [] (vb ((decide (a1 ≤ a0)) && (decide (a0 ≤ a2)))) [] := by
  dsimp only [agraffebase_Within] at h
  refine FnL.ofS (ts := [6]) Tryz.call93 Tryz.func93 rfl rfl (Nat.le_of_ble_eq_true rfl) (Nat.le_of_ble_eq_true rfl) (fun j h => absurd h (Nat.not_lt_zero j)) ?_
  refine sr [(0, vi a0), (1, vi a1), (2, vi a2)] [] ?_
  refine sj ?_
  refine rn 4 [(0, vi a0), (2, vi a2), (10, vb (decide (a1 ≤ a0)))] [] ?_
  refine RegJ.op (Op1.valk (v := vi a0) _ _ (cy (IG 11 (.mov (.t 0)) 10 true)) rfl (by kernel_rfl) (fun hg => (.cons rfl .nil))) ?_
  refine RegJ.op (Op1.valk (v := vi a2) _ _ (cy (IG 12 (.mov (.t 2)) 10 true)) rfl (by kernel_rfl) (fun hg => (.cons rfl .nil))) ?_
  refine RegJ.op (Op1.valk (v := vb (decide (a0 ≤ a2))) _ _ (cy (IG 13 (.bin .leq false (.t 11) (.t 12)) 10 true)) rfl (by kernel_rfl) (fun hg => (.cons hg (.cons hg .nil)))) ?_
  refine RegJ.op (Op1.and (cy (I0 14 (.pick (.t 10) (.t 13) (.c (.p (.bool false)))))) rfl rfl (by first | exact hokA1 | exact hokA0 | simp)) ?_
  refine jq 1 [(6, vb ((decide (a1 ≤ a0)) && (decide (a0 ≤ a2))))] [] ?_
  refine TriE.ret ?_
  have h := Option.some.inj h
  subst h
  exact DoneS.ret (S' := ⟨[(6, vb ((decide (a1 ≤ a0)) && (decide (a0 ≤ a2))))], []⟩) Sees.refl rfl rfl
theorem agraffebase_HasText_2_ok (n : Nat) (a0 : List Str) (a1 : Str) (r : Bool) (h : agraffebase_HasText_2 n a0 a1 = some r) : FnL Tryz.prog 81 [.own 0 0 a0.length, vt a1] [some (.row 1 (List.map vt a0))] (vb r) [some (.row 1 (List.map vt a0))] := by
  dsimp only [agraffebase_HasText_2] at h
  refine FnL.ofS (ts := [4]) Tryz.call81 Tryz.func81 rfl rfl (Nat.le_of_ble_eq_true rfl) (Nat.le_of_ble_eq_true rfl) (hall_of (.cons rfl .nil)) ?_
  refine sr [(0, .own 0 0 a0.length), (1, vt a1)] [some (.row 1 (List.map vt a0))] ?_
  refine TriE.seqK h (fun (_ : Unit) => St.mk [] [some (.row 1 (List.map vt a0))]) ?_ ?_
  · rintro ⟨⟩ h
    refine sr [(4, vb false)] [some (.row 1 (List.map vt a0))] ?_
    refine TriE.ret ?_
    have h := Option.some.inj h
    subst h
    exact DoneS.ret (S' := ⟨[(4, vb false)], [some (.row 1 (List.map vt a0))]⟩) Sees.refl rfl rfl
  intro k1 h
  refine sr [(0, .own 0 0 a0.length), (1, vt a1), (5, vi 0)] [some (.row 1 (List.map vt a0))] ?_
  refine TriE.block ?_
  refine TriE.sees (S' := ⟨[(0, .own 0 0 a0.length), (1, vt a1), (5, vi 0)], [some (.row 1 (List.map vt a0))]⟩) sy ?_
  refine TriE.loopN h (fun (v1 : Nat) => St.mk [(0, .own 0 0 a0.length), (1, vt a1), (5, vi v1)] [some (.row 1 (List.map vt a0))]) rfl ?_
  clear h
  rintro back v1 h
  dsimp only [agraffebase_HasText_2_L1] at h
  refine TriE.seq ?_
  refine sj ?_
  refine rn 3 [(0, .own 0 0 a0.length), (1, vt a1), (5, vi v1), (6, vi v1), (8, vi (a0.length : Int))] [some (.row 1 (List.map vt a0))] ?_
  refine jv (vb (decide (v1 < a0.length))) (cy (I0 9 (.bin .lss false (.t 6) (.t 8)))) (n_lss (i := v1) (j := a0.length) rfl rfl) rfl ?_
  refine jp [(0, .own 0 0 a0.length), (1, vt a1), (5, vi v1), (9, vb (decide (v1 < a0.length)))] ?_
  refine TriE.cond (b := decide (v1 < a0.length)) rfl (fun c1 => ?_) (fun c1 => ?_)
  · have h := cond_t h c1
    refine TriE.skip ?_
    refine TriE.seq ?_
    refine TriE.block ?_
    refine sj ?_
    refine rn 2 [(0, .own 0 0 a0.length), (1, vt a1), (5, vi v1), (12, .own 0 0 a0.length), (13, vi v1)] [some (.row 1 (List.map vt a0))] ?_
    refine jv (.ptr 0 v1 0) (cy (I0 14 (.iaddr 1 (.t 12) (.t 13)))) (ok_iaddr_o0 (j := v1) rfl rfl rfl rfl c1) rfl ?_
    refine jv (vt (ix a0 v1)) (cy (I0 15 (.load false 1 (.t 14)))) (ok_load_pm (l := a0) (e := vt) (v := vt (ix a0 v1)) rfl rfl c1 rfl) rfl ?_
    refine jq 2 [(0, .own 0 0 a0.length), (1, vt a1), (5, vi v1), (17, vb ((ix a0 v1) == a1))] [some (.row 1 (List.map vt a0))] ?_
    refine TriE.cond (b := ((ix a0 v1) == a1)) rfl (fun c2 => ?_) (fun c2 => ?_)
    · have h := cond_t h c2
      refine sr [(4, vb true)] [some (.row 1 (List.map vt a0))] ?_
      refine TriE.ret ?_
      have h := Option.some.inj h
      subst h
      exact DoneS.ret (S' := ⟨[(4, vb true)], [some (.row 1 (List.map vt a0))]⟩) Sees.refl rfl rfl
    have h := cond_f h c2
    refine TriE.skip ?_
    refine TriE.regJ ?_
    refine rn 1 [(0, .own 0 0 a0.length), (1, vt a1), (10, vi v1)] [some (.row 1 (List.map vt a0))] ?_
    obtain ⟨c3, h⟩ := chk_some h
    refine jv (vi ((v1 + 1 : Nat) : Int)) (cy (I0 11 (.bin .add false (.t 10) (.c (.p (.int .i64 1)))))) (r_addn (i := v1) (j := 1) rfl rfl c3) rfl ?_
    refine jq 1 [(0, .own 0 0 a0.length), (1, vt a1), (5, vi ((v1 + 1 : Nat) : Int))] [some (.row 1 (List.map vt a0))] ?_
    exact Vs.intro sy ⟨(v1 + 1), rfl, h⟩
  have h := cond_f h c1
  refine TriE.exit ?_
  exact Vs.intro sy ⟨(), rfl, h⟩
theorem agraffelaw08_places_ok (n : Nat) (a0 : List WantedPart) (a1 : List OfferedPart) (r : Bool) (h : agraffelaw08_places n a0 a1 = some r) : FnL Tryz.prog 57 [eS 2 eWantedPart a0, eS 2 eOfferedPart a1] [] (vb r) [] := by
  dsimp only [agraffelaw08_places] at h
  refine FnL.ofS (ts := [4]) Tryz.call57 Tryz.func57 rfl rfl (Nat.le_of_ble_eq_true rfl) (Nat.le_of_ble_eq_true rfl) (fun j h => absurd h (Nat.not_lt_zero j)) ?_
  refine sr [(0, eS 2 eWantedPart a0), (1, eS 2 eOfferedPart a1)] [] ?_
  refine TriE.seq ?_
  refine sj ?_
  refine rn 1 [(0, eS 2 eWantedPart a0), (1, eS 2 eOfferedPart a1), (7, eS 2 eWantedPart a0)] [] ?_
  refine jv (vi (a0.length : Int)) (cy (I0 8 (.len 0 (.t 7)))) (ok_len_m rfl) rfl ?_
  refine jv (vb (decide (8 < a0.length))) (cy (I0 9 (.bin .gtr false (.t 8) (.c (.p (.int .i64 8)))))) (n_gtr (i := a0.length) (j := 8) rfl rfl) rfl ?_
  refine rn 1 [(0, eS 2 eWantedPart a0), (1, eS 2 eOfferedPart a1), (10, vb (decide (8 < a0.length)))] [] ?_
  refine RegJ.op (Op1.valk (v := eS 2 eWantedPart a0) _ _ (cy (IG 11 (.mov (.t 0)) 10 true)) rfl (by kernel_rfl) (fun hg => (.cons rfl .nil))) ?_
  refine RegJ.op (Op1.valg (v := vi (a0.length : Int)) _ _ (cy (IG 12 (.len 0 (.t 11)) 10 true)) rfl (fun hg => (ok_len_m rfl)) (fun hg => (.cons hg .nil))) ?_
  refine RegJ.op (Op1.valg (v := vb (decide (a0.length ≤ 40))) _ _ (cy (IG 13 (.bin .leq false (.t 12) (.c (.p (.int .i64 40)))) 10 true)) rfl (fun hg => (n_leq (i := a0.length) (j := 40) rfl rfl)) (fun hg => (.cons hg (.cons rfl .nil)))) ?_
  refine RegJ.op (Op1.and (cy (I0 14 (.pick (.t 10) (.t 13) (.c (.p (.bool false)))))) rfl rfl (by first | exact hokA1 | exact hokA0 | simp)) ?_
  refine rn 1 [(0, eS 2 eWantedPart a0), (1, eS 2 eOfferedPart a1), (15, vb ((decide (8 < a0.length)) && (decide (a0.length ≤ 40))))] [] ?_
  refine RegJ.op (Op1.valk (v := eS 2 eWantedPart a0) _ _ (cy (IG 16 (.mov (.t 0)) 15 false)) rfl (by kernel_rfl) (fun hg => (.cons rfl .nil))) ?_
  refine RegJ.op (Op1.valg (v := vi (a0.length : Int)) _ _ (cy (IG 17 (.len 0 (.t 16)) 15 false)) rfl (fun hg => (ok_len_m rfl)) (fun hg => (.cons hg .nil))) ?_
  refine RegJ.op (Op1.valg (v := vb (decide (43 < a0.length))) _ _ (cy (IG 18 (.bin .gtr false (.t 17) (.c (.p (.int .i64 43)))) 15 false)) rfl (fun hg => (n_gtr (i := a0.length) (j := 43) rfl rfl)) (fun hg => (.cons hg (.cons rfl .nil)))) ?_
  refine RegJ.op (Op1.or (cy (I0 19 (.pick (.t 15) (.c (.p (.bool true))) (.t 18)))) rfl rfl (by first | exact hokO1 | exact hokO0 | simp)) ?_
  refine rn 1 [(0, eS 2 eWantedPart a0), (1, eS 2 eOfferedPart a1), (20, vb (((decide (8 < a0.length)) && (decide (a0.length ≤ 40))) || (decide (43 < a0.length))))] [] ?_
  refine RegJ.op (Op1.valk (v := eS 2 eOfferedPart a1) _ _ (cy (IG 21 (.mov (.t 1)) 20 false)) rfl (by kernel_rfl) (fun hg => (.cons rfl .nil))) ?_
  refine RegJ.op (Op1.valg (v := vi (a1.length : Int)) _ _ (cy (IG 22 (.len 0 (.t 21)) 20 false)) rfl (fun hg => (ok_len_m rfl)) (fun hg => (.cons hg .nil))) ?_
  refine RegJ.op (Op1.valg (v := vb (decide (8 < a1.length))) _ _ (cy (IG 23 (.bin .gtr false (.t 22) (.c (.p (.int .i64 8)))) 20 false)) rfl (fun hg => (n_gtr (i := a1.length) (j := 8) rfl rfl)) (fun hg => (.cons hg (.cons rfl .nil)))) ?_
  refine RegJ.op (Op1.valk (v := vb (decide (8 < a1.length))) _ _ (cy (IG 24 (.mov (.t 23)) 20 false)) rfl (by kernel_rfl) (fun hg => (.cons hg .nil))) ?_
  refine RegJ.op (Op1.valk (v := eS 2 eOfferedPart a1) _ _ (cy (IG 25 (.mov (.t 1)) 24 true)) rfl (by kernel_rfl) (fun hg => (.cons rfl .nil))) ?_
  refine RegJ.op (Op1.valg (v := vi (a1.length : Int)) _ _ (cy (IG 26 (.len 0 (.t 25)) 24 true)) rfl (fun hg => (ok_len_m rfl)) (fun hg => (.cons hg .nil))) ?_
  refine RegJ.op (Op1.valg (v := vb (decide (a1.length ≤ 40))) _ _ (cy (IG 27 (.bin .leq false (.t 26) (.c (.p (.int .i64 40)))) 24 true)) rfl (fun hg => (n_leq (i := a1.length) (j := 40) rfl rfl)) (fun hg => (.cons hg (.cons rfl .nil)))) ?_
  refine RegJ.op (Op1.andg (g := !(((decide (8 < a0.length)) && (decide (a0.length ≤ 40))) || (decide (43 < a0.length)))) (cy (IG 28 (.pick (.t 24) (.t 27) (.c (.p (.bool false)))) 20 false)) rfl rfl rfl (fun hg => by first | exact hokA2 hg | exact hokA3 hg | exact hokA1 | exact hokA0 | (rw [hg]; simp) | simp_all)) ?_
  refine RegJ.op (Op1.or (cy (I0 29 (.pick (.t 20) (.c (.p (.bool true))) (.t 28)))) rfl rfl (by first | exact hokO1 | exact hokO0 | simp)) ?_
  refine rn 1 [(0, eS 2 eWantedPart a0), (1, eS 2 eOfferedPart a1), (30, vb ((((decide (8 < a0.length)) && (decide (a0.length ≤ 40))) || (decide (43 < a0.length))) || ((decide (8 < a1.length)) && (decide (a1.length ≤ 40)))))] [] ?_
  refine RegJ.op (Op1.valk (v := eS 2 eOfferedPart a1) _ _ (cy (IG 31 (.mov (.t 1)) 30 false)) rfl (by kernel_rfl) (fun hg => (.cons rfl .nil))) ?_
  refine RegJ.op (Op1.valg (v := vi (a1.length : Int)) _ _ (cy (IG 32 (.len 0 (.t 31)) 30 false)) rfl (fun hg => (ok_len_m rfl)) (fun hg => (.cons hg .nil))) ?_
  refine RegJ.op (Op1.valg (v := vb (decide (43 < a1.length))) _ _ (cy (IG 33 (.bin .gtr false (.t 32) (.c (.p (.int .i64 43)))) 30 false)) rfl (fun hg => (n_gtr (i := a1.length) (j := 43) rfl rfl)) (fun hg => (.cons hg (.cons rfl .nil)))) ?_
  refine RegJ.op (Op1.or (cy (I0 34 (.pick (.t 30) (.c (.p (.bool true))) (.t 33)))) rfl rfl (by first | exact hokO1 | exact hokO0 | simp)) ?_
  refine jp [(0, eS 2 eWantedPart a0), (1, eS 2 eOfferedPart a1), (34, vb (((((decide (8 < a0.length)) && (decide (a0.length ≤ 40))) || (decide (43 < a0.length))) || ((decide (8 < a1.length)) && (decide (a1.length ≤ 40)))) || (decide (43 < a1.length))))] ?_
  refine TriE.cond (b := ((((decide (8 < a0.length)) && (decide (a0.length ≤ 40))) || (decide (43 < a0.length))) || ((decide (8 < a1.length)) && (decide (a1.length ≤ 40)))) || (decide (43 < a1.length))) rfl (fun c1 => ?_) (fun c1 => ?_)
  · have h := cond_t h c1
    refine sr [(4, vb false)] [] ?_
    refine TriE.ret ?_
    have h := Option.some.inj h
    subst h
    exact DoneS.ret (S' := ⟨[(4, vb false)], []⟩) Sees.refl rfl rfl
  have h := cond_f h c1
  refine TriE.skip ?_
  refine TriE.seqK h (fun (_ : Unit) => St.mk [(1, eS 2 eOfferedPart a1)] []) ?_ ?_
  · rintro ⟨⟩ h
    refine TriE.seqK h (fun (_ : Unit) => St.mk [] []) ?_ ?_
    · rintro ⟨⟩ h
      refine sr [(4, vb true)] [] ?_
      refine TriE.ret ?_
      have h := Option.some.inj h
      subst h
      exact DoneS.ret (S' := ⟨[(4, vb true)], []⟩) Sees.refl rfl rfl
    intro k2 h
    refine sr [(1, eS 2 eOfferedPart a1), (6, vi 0)] [] ?_
    refine TriE.block ?_
    refine TriE.sees (S' := ⟨[(1, eS 2 eOfferedPart a1), (6, vi 0)], []⟩) sy ?_
    refine TriE.loopN h (fun (v2 : Nat) => St.mk [(1, eS 2 eOfferedPart a1), (6, vi v2)] []) rfl ?_
    clear h
    rintro back v2 h
    dsimp only [agraffelaw08_places_L2] at h
    refine TriE.seq ?_
    refine sj ?_
    refine rn 2 [(1, eS 2 eOfferedPart a1), (6, vi v2), (57, vi v2), (58, eS 2 eOfferedPart a1)] [] ?_
    refine jv (vi (a1.length : Int)) (cy (I0 59 (.len 0 (.t 58)))) (ok_len_m rfl) rfl ?_
    refine jv (vb (decide (v2 < a1.length))) (cy (I0 60 (.bin .lss false (.t 57) (.t 59)))) (n_lss (i := v2) (j := a1.length) rfl rfl) rfl ?_
    refine jp [(1, eS 2 eOfferedPart a1), (6, vi v2), (60, vb (decide (v2 < a1.length)))] ?_
    refine TriE.cond (b := decide (v2 < a1.length)) rfl (fun c5 => ?_) (fun c5 => ?_)
    · have h := cond_t h c5
      refine TriE.skip ?_
      refine TriE.seq ?_
      refine TriE.block ?_
      refine sj ?_
      refine rn 2 [(1, eS 2 eOfferedPart a1), (6, vi v2), (63, eS 2 eOfferedPart a1), (64, vi v2)] [] ?_
      refine jv (.fptr 2 (List.map eOfferedPart a1) v2 0) (cy (I0 65 (.iaddr 2 (.t 63) (.t 64)))) (ok_iaddr_m (j := v2) rfl rfl rfl c5) rfl ?_
      refine rn 1 [(1, eS 2 eOfferedPart a1), (6, vi v2), (66, .fptr 2 (List.map eOfferedPart a1) v2 0)] [] ?_
      refine jv (vt ((ix a1 v2).Name)) (cy (I0 67 (.load false 1 (.t 66)))) (ok_load_fm (v := vt ((ix a1 v2).Name)) rfl c5 rfl) rfl ?_
      refine jv (vi ((((ix a1 v2).Name).length : Nat) : Int)) (cy (I0 68 (.len 1 (.t 67)))) (ok_len_t rfl) rfl ?_
      refine jv (vb (decide (20 < (((ix a1 v2).Name).length)))) (cy (I0 69 (.bin .gtr false (.t 68) (.c (.p (.int .i64 20)))))) (n_gtr (i := ((ix a1 v2).Name).length) (j := 20) rfl rfl) rfl ?_
      refine rn 1 [(1, eS 2 eOfferedPart a1), (6, vi v2), (70, vb (decide (20 < (((ix a1 v2).Name).length))))] [] ?_
      refine RegJ.op (Op1.valk (v := eS 2 eOfferedPart a1) _ _ (cy (IG 71 (.mov (.t 1)) 70 false)) rfl (by kernel_rfl) (fun hg => (.cons rfl .nil))) ?_
      refine RegJ.op (Op1.valk (v := vi v2) _ _ (cy (IG 72 (.mov (.t 6)) 70 false)) rfl (by kernel_rfl) (fun hg => (.cons rfl .nil))) ?_
      refine RegJ.op (Op1.valg (v := .fptr 2 (List.map eOfferedPart a1) v2 0) _ _ (cy (IG 73 (.iaddr 2 (.t 71) (.t 72)) 70 false)) rfl (fun hg => (ok_iaddr_m (j := v2) rfl rfl rfl c5)) (fun hg => (.cons hg (.cons hg .nil)))) ?_
      refine RegJ.op (Op1.valk (v := .fptr 2 (List.map eOfferedPart a1) v2 1) _ _ (cy (IG 74 (.faddr 1 (.t 73)) 70 false)) rfl (by kernel_rfl) (fun hg => (.cons hg .nil))) ?_
      refine RegJ.op (Op1.valg (v := eS 1 vi ((ix a1 v2).Sizes)) _ _ (cy (IG 75 (.load false 1 (.t 74)) 70 false)) rfl (fun hg => (ok_load_fm (v := eS 1 vi ((ix a1 v2).Sizes)) rfl c5 rfl)) (fun hg => (.cons hg .nil))) ?_
      refine RegJ.op (Op1.valg (v := vi ((((ix a1 v2).Sizes).length : Nat) : Int)) _ _ (cy (IG 76 (.len 0 (.t 75)) 70 false)) rfl (fun hg => (ok_len_m rfl)) (fun hg => (.cons hg .nil))) ?_
      refine RegJ.op (Op1.valg (v := vb (decide (8 < (((ix a1 v2).Sizes).length)))) _ _ (cy (IG 77 (.bin .gtr false (.t 76) (.c (.p (.int .i64 8)))) 70 false)) rfl (fun hg => (n_gtr (i := ((ix a1 v2).Sizes).length) (j := 8) rfl rfl)) (fun hg => (.cons hg (.cons rfl .nil)))) ?_
      refine RegJ.op (Op1.or (cy (I0 78 (.pick (.t 70) (.c (.p (.bool true))) (.t 77)))) rfl rfl (by first | exact hokO1 | exact hokO0 | simp)) ?_
      refine jp [(1, eS 2 eOfferedPart a1), (6, vi v2), (78, vb ((decide (20 < (((ix a1 v2).Name).length))) || (decide (8 < (((ix a1 v2).Sizes).length)))))] ?_
      refine TriE.cond (b := (decide (20 < (((ix a1 v2).Name).length))) || (decide (8 < (((ix a1 v2).Sizes).length)))) rfl (fun c6 => ?_) (fun c6 => ?_)
      · have h := cond_t h c6
        refine sr [(4, vb false)] [] ?_
        refine TriE.ret ?_
        have h := Option.some.inj h
        subst h
        exact DoneS.ret (S' := ⟨[(4, vb false)], []⟩) Sees.refl rfl rfl
      have h := cond_f h c6
      refine TriE.skip ?_
      refine TriE.regJ ?_
      refine rn 1 [(1, eS 2 eOfferedPart a1), (61, vi v2)] [] ?_
      obtain ⟨c7, h⟩ := chk_some h
      refine jv (vi ((v2 + 1 : Nat) : Int)) (cy (I0 62 (.bin .add false (.t 61) (.c (.p (.int .i64 1)))))) (r_addn (i := v2) (j := 1) rfl rfl c7) rfl ?_
      refine jq 1 [(1, eS 2 eOfferedPart a1), (6, vi ((v2 + 1 : Nat) : Int))] [] ?_
      exact Vs.intro sy ⟨(v2 + 1), rfl, h⟩
    have h := cond_f h c5
    refine TriE.exit ?_
    exact Vs.intro sy ⟨(), rfl, h⟩
  intro k1 h
  refine sr [(0, eS 2 eWantedPart a0), (1, eS 2 eOfferedPart a1), (5, vi 0)] [] ?_
  refine TriE.block ?_
  refine TriE.sees (S' := ⟨[(0, eS 2 eWantedPart a0), (1, eS 2 eOfferedPart a1), (5, vi 0)], []⟩) sy ?_
  refine TriE.loopN h (fun (v1 : Nat) => St.mk [(0, eS 2 eWantedPart a0), (1, eS 2 eOfferedPart a1), (5, vi v1)] []) rfl ?_
  clear h
  rintro back v1 h
  dsimp only [agraffelaw08_places_L1] at h
  refine TriE.seq ?_
  refine sj ?_
  refine rn 2 [(0, eS 2 eWantedPart a0), (1, eS 2 eOfferedPart a1), (5, vi v1), (35, vi v1), (36, eS 2 eWantedPart a0)] [] ?_
  refine jv (vi (a0.length : Int)) (cy (I0 37 (.len 0 (.t 36)))) (ok_len_m rfl) rfl ?_
  refine jv (vb (decide (v1 < a0.length))) (cy (I0 38 (.bin .lss false (.t 35) (.t 37)))) (n_lss (i := v1) (j := a0.length) rfl rfl) rfl ?_
  refine jp [(0, eS 2 eWantedPart a0), (1, eS 2 eOfferedPart a1), (5, vi v1), (38, vb (decide (v1 < a0.length)))] ?_
  refine TriE.cond (b := decide (v1 < a0.length)) rfl (fun c2 => ?_) (fun c2 => ?_)
  · have h := cond_t h c2
    refine TriE.skip ?_
    refine TriE.seq ?_
    refine TriE.block ?_
    refine sj ?_
    refine rn 2 [(0, eS 2 eWantedPart a0), (1, eS 2 eOfferedPart a1), (5, vi v1), (41, eS 2 eWantedPart a0), (42, vi v1)] [] ?_
    refine jv (.fptr 2 (List.map eWantedPart a0) v1 0) (cy (I0 43 (.iaddr 2 (.t 41) (.t 42)))) (ok_iaddr_m (j := v1) rfl rfl rfl c2) rfl ?_
    refine rn 1 [(0, eS 2 eWantedPart a0), (1, eS 2 eOfferedPart a1), (5, vi v1), (44, .fptr 2 (List.map eWantedPart a0) v1 0)] [] ?_
    refine jv (vt ((ix a0 v1).Name)) (cy (I0 45 (.load false 1 (.t 44)))) (ok_load_fm (v := vt ((ix a0 v1).Name)) rfl c2 rfl) rfl ?_
    refine jv (vi ((((ix a0 v1).Name).length : Nat) : Int)) (cy (I0 46 (.len 1 (.t 45)))) (ok_len_t rfl) rfl ?_
    refine jv (vb (decide (20 < (((ix a0 v1).Name).length)))) (cy (I0 47 (.bin .gtr false (.t 46) (.c (.p (.int .i64 20)))))) (n_gtr (i := ((ix a0 v1).Name).length) (j := 20) rfl rfl) rfl ?_
    refine rn 1 [(0, eS 2 eWantedPart a0), (1, eS 2 eOfferedPart a1), (5, vi v1), (48, vb (decide (20 < (((ix a0 v1).Name).length))))] [] ?_
    refine RegJ.op (Op1.valk (v := eS 2 eWantedPart a0) _ _ (cy (IG 49 (.mov (.t 0)) 48 false)) rfl (by kernel_rfl) (fun hg => (.cons rfl .nil))) ?_
    refine RegJ.op (Op1.valk (v := vi v1) _ _ (cy (IG 50 (.mov (.t 5)) 48 false)) rfl (by kernel_rfl) (fun hg => (.cons rfl .nil))) ?_
    refine RegJ.op (Op1.valg (v := .fptr 2 (List.map eWantedPart a0) v1 0) _ _ (cy (IG 51 (.iaddr 2 (.t 49) (.t 50)) 48 false)) rfl (fun hg => (ok_iaddr_m (j := v1) rfl rfl rfl c2)) (fun hg => (.cons hg (.cons hg .nil)))) ?_
    refine RegJ.op (Op1.valk (v := .fptr 2 (List.map eWantedPart a0) v1 1) _ _ (cy (IG 52 (.faddr 1 (.t 51)) 48 false)) rfl (by kernel_rfl) (fun hg => (.cons hg .nil))) ?_
    refine RegJ.op (Op1.valg (v := eS 2 eRange ((ix a0 v1).Ranges)) _ _ (cy (IG 53 (.load false 1 (.t 52)) 48 false)) rfl (fun hg => (ok_load_fm (v := eS 2 eRange ((ix a0 v1).Ranges)) rfl c2 rfl)) (fun hg => (.cons hg .nil))) ?_
    refine RegJ.op (Op1.valg (v := vi ((((ix a0 v1).Ranges).length : Nat) : Int)) _ _ (cy (IG 54 (.len 0 (.t 53)) 48 false)) rfl (fun hg => (ok_len_m rfl)) (fun hg => (.cons hg .nil))) ?_
    refine RegJ.op (Op1.valg (v := vb (decide (8 < (((ix a0 v1).Ranges).length)))) _ _ (cy (IG 55 (.bin .gtr false (.t 54) (.c (.p (.int .i64 8)))) 48 false)) rfl (fun hg => (n_gtr (i := ((ix a0 v1).Ranges).length) (j := 8) rfl rfl)) (fun hg => (.cons hg (.cons rfl .nil)))) ?_
    refine RegJ.op (Op1.or (cy (I0 56 (.pick (.t 48) (.c (.p (.bool true))) (.t 55)))) rfl rfl (by first | exact hokO1 | exact hokO0 | simp)) ?_
    refine jp [(0, eS 2 eWantedPart a0), (1, eS 2 eOfferedPart a1), (5, vi v1), (56, vb ((decide (20 < (((ix a0 v1).Name).length))) || (decide (8 < (((ix a0 v1).Ranges).length)))))] ?_
    refine TriE.cond (b := (decide (20 < (((ix a0 v1).Name).length))) || (decide (8 < (((ix a0 v1).Ranges).length)))) rfl (fun c3 => ?_) (fun c3 => ?_)
    · have h := cond_t h c3
      refine sr [(4, vb false)] [] ?_
      refine TriE.ret ?_
      have h := Option.some.inj h
      subst h
      exact DoneS.ret (S' := ⟨[(4, vb false)], []⟩) Sees.refl rfl rfl
    have h := cond_f h c3
    refine TriE.skip ?_
    refine TriE.regJ ?_
    refine rn 1 [(0, eS 2 eWantedPart a0), (1, eS 2 eOfferedPart a1), (39, vi v1)] [] ?_
    obtain ⟨c4, h⟩ := chk_some h
    refine jv (vi ((v1 + 1 : Nat) : Int)) (cy (I0 40 (.bin .add false (.t 39) (.c (.p (.int .i64 1)))))) (r_addn (i := v1) (j := 1) rfl rfl c4) rfl ?_
    refine jq 1 [(0, eS 2 eWantedPart a0), (1, eS 2 eOfferedPart a1), (5, vi ((v1 + 1 : Nat) : Int))] [] ?_
    exact Vs.intro sy ⟨(v1 + 1), rfl, h⟩
  have h := cond_f h c2
  refine TriE.exit ?_
  exact Vs.intro sy ⟨(), rfl, h⟩
theorem agraffelaw08_wanted_ok (n : Nat) (a0 : List WantedPart) (r : (List WantedPart)) (h : agraffelaw08_wanted n a0 = some r) : FnL Tryz.prog 59 [eS 2 eWantedPart a0] [] (eS 2 eWantedPart r) [] := by
  dsimp only [agraffelaw08_wanted] at h
  refine FnL.ofS (ts := [2]) Tryz.call59 Tryz.func59 rfl rfl (Nat.le_of_ble_eq_true rfl) (Nat.le_of_ble_eq_true rfl) (fun j h => absurd h (Nat.not_lt_zero j)) ?_
  refine sr [(0, eS 2 eWantedPart a0)] [] ?_
  refine sj ?_
  refine rn 2 [(5, .emp), (6, eS 2 eWantedPart a0)] [] ?_
  obtain ⟨c1, h⟩ := chk_some h
  refine je (.own 0 0 a0.length) [some (.row 2 (List.map eWantedPart a0))] (cy (I0 7 (.app 2 40 (.t 5) (.t 6)))) (ok_app_emp (e := eWantedPart) (l := a0) (u := eS 2 eWantedPart a0) rfl rfl els_sl c1) rfl rfl rfl ?_
  refine jq 1 [(3, .own 0 0 a0.length)] [some (.row 2 (List.map eWantedPart a0))] ?_
  refine TriE.seqK h (fun (v3 : (List WantedPart)) => St.mk [(3, .own 0 0 v3.length)] [some (.row 2 (List.map eWantedPart v3))]) ?_ ?_
  · rintro v3 h
    refine sr [(2, .own 0 0 v3.length)] [some (.row 2 (List.map eWantedPart v3))] ?_
    refine TriE.ret ?_
    have h := Option.some.inj h
    subst h
    exact DoneS.ret (S' := ⟨[(2, eS 2 eWantedPart v3)], []⟩) (Sees.trans (Sees.freeze 0 (fr' := [(2, eS 2 eWantedPart v3)]) (ob' := [none]) rfl (frz_row eWantedPart_frzE _) (.cons (frz_full rfl) .nil) rfl) (sc [] (by decide) (by kernel_rfl) ObRen.nil rfl rfl)) rfl rfl
  intro k1 h
  refine sr [(3, .own 0 0 a0.length), (4, vi 0)] [some (.row 2 (List.map eWantedPart a0))] ?_
  refine TriE.block ?_
  refine TriE.sees (S' := ⟨[(3, .own 0 0 a0.length), (4, vi 0)], [some (.row 2 (List.map eWantedPart a0))]⟩) sy ?_
  refine TriE.loopN h (fun (t : Nat × (List WantedPart)) => match t with | (v1, v2) => St.mk [(3, .own 0 0 v2.length), (4, vi v1)] [some (.row 2 (List.map eWantedPart v2))]) rfl ?_
  clear h
  rintro back ⟨v1, v2⟩ h
  dsimp only [agraffelaw08_wanted_L1] at h
  refine TriE.seq ?_
  refine sj ?_
  refine rn 3 [(3, .own 0 0 v2.length), (4, vi v1), (8, vi v1), (10, vi (v2.length : Int))] [some (.row 2 (List.map eWantedPart v2))] ?_
  refine jv (vb (decide (v1 < v2.length))) (cy (I0 11 (.bin .lss false (.t 8) (.t 10)))) (n_lss (i := v1) (j := v2.length) rfl rfl) rfl ?_
  refine jp [(3, .own 0 0 v2.length), (4, vi v1), (11, vb (decide (v1 < v2.length)))] ?_
  refine TriE.cond (b := decide (v1 < v2.length)) rfl (fun c2 => ?_) (fun c2 => ?_)
  · have h := cond_t h c2
    refine TriE.skip ?_
    refine TriE.seq ?_
    refine TriE.block ?_
    refine TriE.regJ ?_
    refine rn 5 [(3, .own 0 0 v2.length), (4, vi v1), (14, .own 0 0 v2.length), (15, vi v1), (16, .emp), (17, .own 0 0 v2.length), (18, vi v1)] [some (.row 2 (List.map eWantedPart v2))] ?_
    refine jv (.ptr 0 v1 0) (cy (I0 19 (.iaddr 2 (.t 17) (.t 18)))) (ok_iaddr_o0 (j := v1) rfl rfl rfl rfl c2) rfl ?_
    refine rn 1 [(3, .own 0 0 v2.length), (4, vi v1), (14, .own 0 0 v2.length), (15, vi v1), (16, .emp), (20, .ptr 0 v1 1)] [some (.row 2 (List.map eWantedPart v2))] ?_
    refine jv (eS 2 eRange ((ix v2 v1).Ranges)) (cy (I0 21 (.load false 1 (.t 20)))) (ok_load_pm (l := v2) (e := eWantedPart) (v := eS 2 eRange ((ix v2 v1).Ranges)) rfl rfl c2 rfl) rfl ?_
    obtain ⟨c3, h⟩ := chk_some h
    refine je (.own 1 0 (((ix v2 v1).Ranges).length)) [some (.row 2 (List.map eWantedPart v2)), some (.row 2 (List.map eRange ((ix v2 v1).Ranges)))] (cy (I0 22 (.app 2 16 (.t 16) (.t 21)))) (ok_app_emp (e := eRange) (l := (ix v2 v1).Ranges) (u := eS 2 eRange ((ix v2 v1).Ranges)) rfl rfl els_sl c3) rfl rfl rfl ?_
    refine jv (.ptr 0 v1 0) (cy (I0 23 (.iaddr 2 (.t 14) (.t 15)))) (ok_iaddr_o0 (j := v1) rfl rfl rfl rfl c2) rfl ?_
    refine rn 1 [(3, .own 0 0 v2.length), (4, vi v1), (22, .own 1 0 (((ix v2 v1).Ranges).length)), (24, .ptr 0 v1 1)] [some (.row 2 (List.map eWantedPart v2)), some (.row 2 (List.map eRange ((ix v2 v1).Ranges)))] ?_
    refine RegJ.sees (Sees.freeze 1 (fr' := [(3, .own 0 0 v2.length), (4, vi v1), (22, eS 2 eRange ((ix v2 v1).Ranges)), (24, .ptr 0 v1 1)]) (ob' := [some (.row 2 (List.map eWantedPart v2)), none]) rfl (frz_row eRange_frzE _) (.cons (.refl _) (.cons (.refl _) (.cons (frz_full rfl) (.cons (.refl _) .nil)))) rfl) ?_
    refine je (.undef) [some (.row 2 (List.map eWantedPart (List.set v2 v1 (ix v2 v1)))), none] (cy (IN (.store 1 (.t 24) (.t 22)))) (ok_store_m (l := v2) (e := eWantedPart) (x' := (ix v2 v1)) (u := eS 2 eRange ((ix v2 v1).Ranges)) rfl rfl rfl c2 rfl rfl) rfl rfl rfl ?_
    refine jp [(3, .own 0 0 v2.length), (4, vi v1)] ?_
    refine TriE.regJ ?_
    refine rn 1 [(3, .own 0 0 v2.length), (12, vi v1)] [some (.row 2 (List.map eWantedPart (List.set v2 v1 (ix v2 v1)))), none] ?_
    obtain ⟨c4, h⟩ := chk_some h
    refine jv (vi ((v1 + 1 : Nat) : Int)) (cy (I0 13 (.bin .add false (.t 12) (.c (.p (.int .i64 1)))))) (r_addn (i := v1) (j := 1) rfl rfl c4) rfl ?_
    refine jq 1 [(3, .own 0 0 v2.length), (4, vi ((v1 + 1 : Nat) : Int))] [some (.row 2 (List.map eWantedPart (List.set v2 v1 (ix v2 v1)))), none] ?_
    exact Vs.intro (Sees.cov (Cov.mk2 (rs := [0]) (by decide) rfl rfl (.cons (.inl (by simp only [List.length_set]; rfl)) (.cons (.inl rfl) .nil)) (obRen_row eWantedPart_frz rfl .nil))) ⟨(v1 + 1, (List.set v2 v1 (ix v2 v1))), rfl, h⟩
  have h := cond_f h c2
  refine TriE.exit ?_
  exact Vs.intro sy ⟨v2, rfl, h⟩
theorem agraffebase_CopyInts_ok (n : Nat) (a0 : List Int) (r : Unit) (h : agraffebase_CopyInts n a0 = some r) : FnL Tryz.prog 28 [eS 1 vi a0] [] (.own 0 0 a0.length) [some (.row 1 (List.map vi a0))] := by
  dsimp only [agraffebase_CopyInts] at h
  refine FnL.ofS (ts := [2]) Tryz.call28 Tryz.func28 rfl rfl (Nat.le_of_ble_eq_true rfl) (Nat.le_of_ble_eq_true rfl) (fun j h => absurd h (Nat.not_lt_zero j)) ?_
  refine sr [(0, eS 1 vi a0)] [] ?_
  refine sj ?_
  refine rn 2 [(3, .emp), (4, eS 1 vi a0)] [] ?_
  obtain ⟨c1, h⟩ := chk_some h
  refine je (.own 0 0 a0.length) [some (.row 1 (List.map vi a0))] (cy (I0 5 (.app 1 8 (.t 3) (.t 4)))) (ok_app_emp (e := vi) (l := a0) (u := eS 1 vi a0) rfl rfl els_sl c1) rfl rfl rfl ?_
  refine jq 1 [(2, .own 0 0 a0.length)] [some (.row 1 (List.map vi a0))] ?_
  refine TriE.ret ?_
  have h := Option.some.inj h
  subst h
  exact DoneS.ret (S' := ⟨[(2, .own 0 0 a0.length)], [some (.row 1 (List.map vi a0))]⟩) Sees.refl rfl rfl
theorem agraffelaw08_offered_ok (n : Nat) (a0 : List OfferedPart) (r : (List OfferedPart)) (h : agraffelaw08_offered n a0 = some r) : FnL Tryz.prog 60 [eS 2 eOfferedPart a0] [] (eS 2 eOfferedPart r) [] := by
  dsimp only [agraffelaw08_offered] at h
  refine FnL.ofS (ts := [2]) Tryz.call60 Tryz.func60 rfl rfl (Nat.le_of_ble_eq_true rfl) (Nat.le_of_ble_eq_true rfl) (fun j h => absurd h (Nat.not_lt_zero j)) ?_
  refine sr [(0, eS 2 eOfferedPart a0)] [] ?_
  refine sj ?_
  refine rn 2 [(5, .emp), (6, eS 2 eOfferedPart a0)] [] ?_
  obtain ⟨c1, h⟩ := chk_some h
  refine je (.own 0 0 a0.length) [some (.row 2 (List.map eOfferedPart a0))] (cy (I0 7 (.app 2 40 (.t 5) (.t 6)))) (ok_app_emp (e := eOfferedPart) (l := a0) (u := eS 2 eOfferedPart a0) rfl rfl els_sl c1) rfl rfl rfl ?_
  refine jq 1 [(3, .own 0 0 a0.length)] [some (.row 2 (List.map eOfferedPart a0))] ?_
  refine TriE.seqK h (fun (v5 : (List OfferedPart)) => St.mk [(3, .own 0 0 v5.length)] [some (.row 2 (List.map eOfferedPart v5))]) ?_ ?_
  · rintro v5 h
    refine sr [(2, .own 0 0 v5.length)] [some (.row 2 (List.map eOfferedPart v5))] ?_
    refine TriE.ret ?_
    have h := Option.some.inj h
    subst h
    exact DoneS.ret (S' := ⟨[(2, eS 2 eOfferedPart v5)], []⟩) (Sees.trans (Sees.freeze 0 (fr' := [(2, eS 2 eOfferedPart v5)]) (ob' := [none]) rfl (frz_row eOfferedPart_frzE _) (.cons (frz_full rfl) .nil) rfl) (sc [] (by decide) (by kernel_rfl) ObRen.nil rfl rfl)) rfl rfl
  intro k1 h
  refine sr [(3, .own 0 0 a0.length), (4, vi 0)] [some (.row 2 (List.map eOfferedPart a0))] ?_
  refine TriE.block ?_
  refine TriE.sees (S' := ⟨[(3, .own 0 0 a0.length), (4, vi 0)], [some (.row 2 (List.map eOfferedPart a0))]⟩) sy ?_
  refine TriE.loopN h (fun (t : Nat × (List OfferedPart)) => match t with | (v2, v3) => St.mk [(3, .own 0 0 v3.length), (4, vi v2)] [some (.row 2 (List.map eOfferedPart v3))]) rfl ?_
  clear h
  rintro back ⟨v2, v3⟩ h
  dsimp only [agraffelaw08_offered_L1] at h
  refine TriE.seq ?_
  refine sj ?_
  refine rn 3 [(3, .own 0 0 v3.length), (4, vi v2), (8, vi v2), (10, vi (v3.length : Int))] [some (.row 2 (List.map eOfferedPart v3))] ?_
  refine jv (vb (decide (v2 < v3.length))) (cy (I0 11 (.bin .lss false (.t 8) (.t 10)))) (n_lss (i := v2) (j := v3.length) rfl rfl) rfl ?_
  refine jp [(3, .own 0 0 v3.length), (4, vi v2), (11, vb (decide (v2 < v3.length)))] ?_
  refine TriE.cond (b := decide (v2 < v3.length)) rfl (fun c2 => ?_) (fun c2 => ?_)
  · have h := cond_t h c2
    refine TriE.skip ?_
    refine TriE.seq ?_
    refine TriE.block ?_
    refine TriE.regJ ?_
    refine rn 4 [(3, .own 0 0 v3.length), (4, vi v2), (14, .own 0 0 v3.length), (15, vi v2), (16, .own 0 0 v3.length), (17, vi v2)] [some (.row 2 (List.map eOfferedPart v3))] ?_
    refine jv (.ptr 0 v2 0) (cy (I0 18 (.iaddr 2 (.t 16) (.t 17)))) (ok_iaddr_o0 (j := v2) rfl rfl rfl rfl c2) rfl ?_
    refine rn 1 [(3, .own 0 0 v3.length), (4, vi v2), (14, .own 0 0 v3.length), (15, vi v2), (19, .ptr 0 v2 1)] [some (.row 2 (List.map eOfferedPart v3))] ?_
    refine jv (eS 1 vi ((ix v3 v2).Sizes)) (cy (I0 20 (.load false 1 (.t 19)))) (ok_load_pm (l := v3) (e := eOfferedPart) (v := eS 1 vi ((ix v3 v2).Sizes)) rfl rfl c2 rfl) rfl ?_
    obtain ⟨y4, hy4, h⟩ := bind_some h
    refine RegJ.op (Op1.call (y' := .own 1 0 (((ix v3 v2).Sizes).length)) (obx := []) (oby := [some (.row 1 (List.map vi ((ix v3 v2).Sizes)))]) (ob2 := [some (.row 2 (List.map eOfferedPart v3)), some (.row 1 (List.map vi ((ix v3 v2).Sizes)))]) _ _ (cy (I0 21 (.call 28 [(.t 20)]))) rfl (agraffebase_CopyInts_ok n ((ix v3 v2).Sizes) y4 hy4) [] (by kernel_rfl) (.cons rfl (.cons rfl .nil)) (by kernel_rfl) (by kernel_rfl) ObsRen.nil (by kernel_rfl) (.same (row_ren vi_frz _ _ _) .nil) (by kernel_rfl)) ?_
    refine jv (.ptr 0 v2 0) (cy (I0 22 (.iaddr 2 (.t 14) (.t 15)))) (ok_iaddr_o0 (j := v2) rfl rfl rfl rfl c2) rfl ?_
    refine rn 1 [(3, .own 0 0 v3.length), (4, vi v2), (21, .own 1 0 (((ix v3 v2).Sizes).length)), (23, .ptr 0 v2 1)] [some (.row 2 (List.map eOfferedPart v3)), some (.row 1 (List.map vi ((ix v3 v2).Sizes)))] ?_
    refine RegJ.sees (Sees.freeze 1 (fr' := [(3, .own 0 0 v3.length), (4, vi v2), (21, eS 1 vi ((ix v3 v2).Sizes)), (23, .ptr 0 v2 1)]) (ob' := [some (.row 2 (List.map eOfferedPart v3)), none]) rfl (frz_row vi_frzE _) (.cons (.refl _) (.cons (.refl _) (.cons (frz_full rfl) (.cons (.refl _) .nil)))) rfl) ?_
    refine je (.undef) [some (.row 2 (List.map eOfferedPart (List.set v3 v2 (ix v3 v2)))), none] (cy (IN (.store 1 (.t 23) (.t 21)))) (ok_store_m (l := v3) (e := eOfferedPart) (x' := (ix v3 v2)) (u := eS 1 vi ((ix v3 v2).Sizes)) rfl rfl rfl c2 rfl rfl) rfl rfl rfl ?_
    refine jp [(3, .own 0 0 v3.length), (4, vi v2)] ?_
    refine TriE.regJ ?_
    refine rn 1 [(3, .own 0 0 v3.length), (12, vi v2)] [some (.row 2 (List.map eOfferedPart (List.set v3 v2 (ix v3 v2)))), none] ?_
    obtain ⟨c3, h⟩ := chk_some h
    refine jv (vi ((v2 + 1 : Nat) : Int)) (cy (I0 13 (.bin .add false (.t 12) (.c (.p (.int .i64 1)))))) (r_addn (i := v2) (j := 1) rfl rfl c3) rfl ?_
    refine jq 1 [(3, .own 0 0 v3.length), (4, vi ((v2 + 1 : Nat) : Int))] [some (.row 2 (List.map eOfferedPart (List.set v3 v2 (ix v3 v2)))), none] ?_
    exact Vs.intro (Sees.cov (Cov.mk2 (rs := [0]) (by decide) rfl rfl (.cons (.inl (by simp only [List.length_set]; rfl)) (.cons (.inl rfl) .nil)) (obRen_row eOfferedPart_frz rfl .nil))) ⟨(v2 + 1, (List.set v3 v2 (ix v3 v2))), rfl, h⟩
  have h := cond_f h c2
  refine TriE.exit ?_
  exact Vs.intro sy ⟨v3, rfl, h⟩
theorem agraffebase_CopyInts_2_ok (n : Nat) (a0 : List Int) (r : Unit) (h : agraffebase_CopyInts_2 n a0 = some r) : FnL Tryz.prog 28 [eS 1 vi a0] [] (eS 1 vi a0) [] := by
  dsimp only [agraffebase_CopyInts_2] at h
  refine FnL.ofS (ts := [2]) Tryz.call28 Tryz.func28 rfl rfl (Nat.le_of_ble_eq_true rfl) (Nat.le_of_ble_eq_true rfl) (fun j h => absurd h (Nat.not_lt_zero j)) ?_
  refine sr [(0, eS 1 vi a0)] [] ?_
  refine sj ?_
  refine rn 2 [(3, .emp), (4, eS 1 vi a0)] [] ?_
  obtain ⟨c1, h⟩ := chk_some h
  refine je (.own 0 0 a0.length) [some (.row 1 (List.map vi a0))] (cy (I0 5 (.app 1 8 (.t 3) (.t 4)))) (ok_app_emp (e := vi) (l := a0) (u := eS 1 vi a0) rfl rfl els_sl c1) rfl rfl rfl ?_
  refine jq 1 [(2, .own 0 0 a0.length)] [some (.row 1 (List.map vi a0))] ?_
  refine TriE.ret ?_
  have h := Option.some.inj h
  subst h
  exact DoneS.ret (S' := ⟨[(2, eS 1 vi a0)], []⟩) (Sees.trans (Sees.freeze 0 (fr' := [(2, eS 1 vi a0)]) (ob' := [none]) rfl (frz_row vi_frzE _) (.cons (frz_full rfl) .nil) rfl) (sc [] (by decide) (by kernel_rfl) ObRen.nil rfl rfl)) rfl rfl
theorem restore_checkBoth_f1_ok (n : Nat) (a0 : WantedPart) (r : Unit) (h : restore_checkBoth_f1 n a0 = some r) : FnL Tryz.prog 174 [.agg [vt a0.Name, eS 2 eRange a0.Ranges]] [] (vt a0.Name) [] := by
  dsimp only [restore_checkBoth_f1] at h
  refine FnL.ofS (ts := [2]) Tryz.call174 Tryz.func174 rfl rfl (Nat.le_of_ble_eq_true rfl) (Nat.le_of_ble_eq_true rfl) (fun j h => absurd h (Nat.not_lt_zero j)) ?_
  refine sr [(1, .ptr 0 0 0)] [some (.row 2 [.agg [vt a0.Name, eS 2 eRange a0.Ranges]])] ?_
  refine sr [(2, vt a0.Name)] [some (.row 2 [.agg [vt a0.Name, eS 2 eRange a0.Ranges]])] ?_
  refine TriE.ret ?_
  have h := Option.some.inj h
  subst h
  exact DoneS.ret (S' := ⟨[(2, vt a0.Name)], []⟩) (sc [] (by decide) (by kernel_rfl) ObRen.nil rfl rfl) rfl rfl
theorem restore_checkRanges_f1_ok (n : Nat) (a0 : Range) (r : Unit) (h : restore_checkRanges_f1 n a0 = some r) : FnL Tryz.prog 203 [.agg [vi a0.Lo, vi a0.Hi]] [] (vb (((decide (a0.Lo < (0 : Int))) || (decide (a0.Hi < a0.Lo))) || (decide ((1000000 : Int) < a0.Hi)))) [] := by
  dsimp only [restore_checkRanges_f1] at h
  refine FnL.ofS (ts := [2]) Tryz.call203 Tryz.func203 rfl rfl (Nat.le_of_ble_eq_true rfl) (Nat.le_of_ble_eq_true rfl) (fun j h => absurd h (Nat.not_lt_zero j)) ?_
  refine sr [(1, .ptr 0 0 0)] [some (.row 2 [.agg [vi a0.Lo, vi a0.Hi]])] ?_
  refine sj ?_
  refine rn 4 [(1, .ptr 0 0 0), (6, vb (decide (a0.Lo < (0 : Int))))] [some (.row 2 [.agg [vi a0.Lo, vi a0.Hi]])] ?_
  refine RegJ.op (Op1.valk (v := .ptr 0 0 0) _ _ (cy (IG 7 (.faddr 0 (.t 1)) 6 false)) rfl (by kernel_rfl) (fun hg => (.cons rfl .nil))) ?_
  refine RegJ.op (Op1.valk (v := vi a0.Lo) _ _ (cy (IG 8 (.load false 1 (.t 7)) 6 false)) rfl (by kernel_rfl) (fun hg => (.cons hg .nil))) ?_
  refine RegJ.op (Op1.valk (v := .ptr 0 0 1) _ _ (cy (IG 9 (.faddr 1 (.t 1)) 6 false)) rfl (by kernel_rfl) (fun hg => (.cons rfl .nil))) ?_
  refine RegJ.op (Op1.valk (v := vi a0.Hi) _ _ (cy (IG 10 (.load false 1 (.t 9)) 6 false)) rfl (by kernel_rfl) (fun hg => (.cons hg .nil))) ?_
  refine RegJ.op (Op1.valk (v := vb (decide (a0.Hi < a0.Lo))) _ _ (cy (IG 11 (.bin .gtr false (.t 8) (.t 10)) 6 false)) rfl (by kernel_rfl) (fun hg => (.cons hg (.cons hg .nil)))) ?_
  refine RegJ.op (Op1.or (cy (I0 12 (.pick (.t 6) (.c (.p (.bool true))) (.t 11)))) rfl rfl (by first | exact hokO1 | exact hokO0 | simp)) ?_
  refine rn 1 [(1, .ptr 0 0 0), (13, vb ((decide (a0.Lo < (0 : Int))) || (decide (a0.Hi < a0.Lo))))] [some (.row 2 [.agg [vi a0.Lo, vi a0.Hi]])] ?_
  refine RegJ.op (Op1.valk (v := .ptr 0 0 1) _ _ (cy (IG 14 (.faddr 1 (.t 1)) 13 false)) rfl (by kernel_rfl) (fun hg => (.cons rfl .nil))) ?_
  refine RegJ.op (Op1.valk (v := vi a0.Hi) _ _ (cy (IG 15 (.load false 1 (.t 14)) 13 false)) rfl (by kernel_rfl) (fun hg => (.cons hg .nil))) ?_
  refine RegJ.op (Op1.valk (v := vb (decide ((1000000 : Int) < a0.Hi))) _ _ (cy (IG 16 (.bin .gtr false (.t 15) (.c (.p (.int .i64 1000000)))) 13 false)) rfl (by kernel_rfl) (fun hg => (.cons hg (.cons rfl .nil)))) ?_
  refine RegJ.op (Op1.or (cy (I0 17 (.pick (.t 13) (.c (.p (.bool true))) (.t 16)))) rfl rfl (by first | exact hokO1 | exact hokO0 | simp)) ?_
  refine jq 1 [(2, vb (((decide (a0.Lo < (0 : Int))) || (decide (a0.Hi < a0.Lo))) || (decide ((1000000 : Int) < a0.Hi))))] [some (.row 2 [.agg [vi a0.Lo, vi a0.Hi]])] ?_
  refine TriE.ret ?_
  have h := Option.some.inj h
  subst h
  exact DoneS.ret (S' := ⟨[(2, vb (((decide (a0.Lo < (0 : Int))) || (decide (a0.Hi < a0.Lo))) || (decide ((1000000 : Int) < a0.Hi))))], []⟩) (sc [] (by decide) (by kernel_rfl) ObRen.nil rfl rfl) rfl rfl
theorem slices_IndexFunc_Range_ok (n : Nat) (a0 : List Range) (r : Int) (h : slices_IndexFunc_Range n a0 = some r) : FnL Tryz.prog 224 [eS 2 eRange a0, .fn (.func 203) [] []] [] (vi r) [] := by
  dsimp only [slices_IndexFunc_Range] at h
  refine FnL.ofS (ts := [4]) Tryz.call224 Tryz.func224 rfl rfl (Nat.le_of_ble_eq_true rfl) (Nat.le_of_ble_eq_true rfl) (fun j h => absurd h (Nat.not_lt_zero j)) ?_
  refine sr [(0, eS 2 eRange a0), (1, .fn (.func 203) [] [])] [] ?_
  refine TriE.seqK h (fun (_ : Unit) => St.mk [] []) ?_ ?_
  · rintro ⟨⟩ h
    refine sr [(4, vi (-1))] [] ?_
    refine TriE.ret ?_
    have h := Option.some.inj h
    subst h
    exact DoneS.ret (S' := ⟨[(4, vi (-1))], []⟩) Sees.refl rfl rfl
  intro k1 h
  refine sj ?_
  refine rn 1 [(0, eS 2 eRange a0), (1, .fn (.func 203) [] []), (6, eS 2 eRange a0)] [] ?_
  refine jv (vi (a0.length : Int)) (cy (I0 7 (.len 0 (.t 6)))) (ok_len_m rfl) rfl ?_
  refine jq 1 [(0, eS 2 eRange a0), (1, .fn (.func 203) [] []), (7, vi (a0.length : Int)), (8, vi 0)] [] ?_
  refine TriE.block ?_
  refine TriE.sees (S' := ⟨[(0, eS 2 eRange a0), (1, .fn (.func 203) [] []), (7, vi (a0.length : Int)), (8, vi 0)], []⟩) sy ?_
  refine TriE.loopN h (fun (v2 : Nat) => St.mk [(0, eS 2 eRange a0), (1, .fn (.func 203) [] []), (7, vi (a0.length : Int)), (8, vi v2)] []) rfl ?_
  clear h
  rintro back v2 h
  dsimp only [slices_IndexFunc_Range_L1] at h
  refine sj ?_
  refine jv (vb (decide (v2 < a0.length))) (cy (I0 9 (.bin .lss false (.t 8) (.t 7)))) (n_lss (i := v2) (j := a0.length) rfl rfl) rfl ?_
  refine jp [(0, eS 2 eRange a0), (1, .fn (.func 203) [] []), (7, vi (a0.length : Int)), (8, vi v2), (9, vb (decide (v2 < a0.length)))] ?_
  refine TriE.seq ?_
  refine TriE.cond (b := decide (v2 < a0.length)) rfl (fun c1 => ?_) (fun c1 => ?_)
  · have h := cond_t h c1
    refine TriE.skip ?_
    refine TriE.seq ?_
    refine TriE.block ?_
    refine sr [(0, eS 2 eRange a0), (1, .fn (.func 203) [] []), (7, vi (a0.length : Int)), (8, vi v2), (5, vi v2)] [] ?_
    refine sj ?_
    refine rn 3 [(0, eS 2 eRange a0), (1, .fn (.func 203) [] []), (7, vi (a0.length : Int)), (8, vi v2), (5, vi v2), (11, .fn (.func 203) [] []), (12, eS 2 eRange a0), (13, vi v2)] [] ?_
    refine jv (.fptr 2 (List.map eRange a0) v2 0) (cy (I0 14 (.iaddr 2 (.t 12) (.t 13)))) (ok_iaddr_m (j := v2) rfl rfl rfl c1) rfl ?_
    refine jv (.agg [vi ((ix a0 v2).Lo), vi ((ix a0 v2).Hi)]) (cy (I0 15 (.load true 2 (.t 14)))) (ok_load_fm (v := .agg [vi ((ix a0 v2).Lo), vi ((ix a0 v2).Hi)]) rfl c1 rfl) rfl ?_
    obtain ⟨y3, hy3, h⟩ := bind_some h
    refine RegJ.op (Op1.dyn (y' := vb (((decide ((ix a0 v2).Lo < (0 : Int))) || (decide ((ix a0 v2).Hi < (ix a0 v2).Lo))) || (decide ((1000000 : Int) < (ix a0 v2).Hi)))) (obx := []) (oby := []) (ob2 := []) _ _ _ (cy (I0 16 (.dyn (.t 11) [(.t 15)]))) rfl rfl (restore_checkRanges_f1_ok n (ix a0 v2) y3 hy3) [] (by kernel_rfl) (.cons rfl (.cons rfl .nil)) (by kernel_rfl) (by kernel_rfl) ObsRen.nil (by kernel_rfl) ObsRen.nil (by kernel_rfl)) ?_
    refine jp [(0, eS 2 eRange a0), (1, .fn (.func 203) [] []), (7, vi (a0.length : Int)), (8, vi v2), (5, vi v2), (16, vb (((decide ((ix a0 v2).Lo < (0 : Int))) || (decide ((ix a0 v2).Hi < (ix a0 v2).Lo))) || (decide ((1000000 : Int) < (ix a0 v2).Hi))))] ?_
    refine TriE.cond (b := ((decide ((ix a0 v2).Lo < (0 : Int))) || (decide ((ix a0 v2).Hi < (ix a0 v2).Lo))) || (decide ((1000000 : Int) < (ix a0 v2).Hi))) rfl (fun c2 => ?_) (fun c2 => ?_)
    · have h := cond_t h c2
      refine sr [(4, vi v2)] [] ?_
      refine TriE.ret ?_
      have h := Option.some.inj h
      subst h
      exact DoneS.ret (S' := ⟨[(4, vi v2)], []⟩) Sees.refl rfl rfl
    have h := cond_f h c2
    refine TriE.skip ?_
    refine TriE.regJ ?_
    obtain ⟨c3, h⟩ := chk_some h
    refine jv (vi ((v2 + 1 : Nat) : Int)) (cy (I0 18 (.bin .add false (.t 8) (.c (.p (.int .i64 1)))))) (r_addn (i := v2) (j := 1) rfl rfl c3) rfl ?_
    refine jq 1 [(0, eS 2 eRange a0), (1, .fn (.func 203) [] []), (7, vi (a0.length : Int)), (8, vi ((v2 + 1 : Nat) : Int))] [] ?_
    exact Vs.intro sy ⟨(v2 + 1), rfl, h⟩
  have h := cond_f h c1
  refine TriE.exit ?_
  exact Vs.intro sy ⟨(), rfl, h⟩
theorem slices_ContainsFunc_Range_ok (n : Nat) (a0 : List Range) (r : Bool) (h : slices_ContainsFunc_Range n a0 = some r) : FnL Tryz.prog 202 [eS 2 eRange a0, .fn (.func 203) [] []] [] (vb r) [] := by
  dsimp only [slices_ContainsFunc_Range] at h
  refine FnL.ofS (ts := [4]) Tryz.call202 Tryz.func202 rfl rfl (Nat.le_of_ble_eq_true rfl) (Nat.le_of_ble_eq_true rfl) (fun j h => absurd h (Nat.not_lt_zero j)) ?_
  refine sr [(0, eS 2 eRange a0), (1, .fn (.func 203) [] [])] [] ?_
  refine sj ?_
  refine rn 2 [(5, eS 2 eRange a0), (6, .fn (.func 203) [] [])] [] ?_
  obtain ⟨y1, hy1, h⟩ := bind_some h
  refine RegJ.op (Op1.call (y' := vi y1) (obx := []) (oby := []) (ob2 := []) _ _ (cy (I0 7 (.call 224 [(.t 5), (.t 6)]))) rfl (slices_IndexFunc_Range_ok n a0 y1 hy1) [] (by kernel_rfl) (.cons rfl (.cons rfl (.cons rfl .nil))) (by kernel_rfl) (by kernel_rfl) ObsRen.nil (by kernel_rfl) ObsRen.nil (by kernel_rfl)) ?_
  refine jq 2 [(4, vb (decide ((0 : Int) ≤ y1)))] [] ?_
  refine TriE.ret ?_
  have h := Option.some.inj h
  subst h
  exact DoneS.ret (S' := ⟨[(4, vb (decide ((0 : Int) ≤ y1)))], []⟩) Sees.refl rfl rfl
theorem restore_checkRanges_ok (n : Nat) (a0 : WantedPart) (r : Int) (h : restore_checkRanges n a0 = some r) : FnL Tryz.prog 175 [.agg [vt a0.Name, eS 2 eRange a0.Ranges]] [] (vi r) [] := by
  dsimp only [restore_checkRanges] at h
  refine FnL.ofS (ts := [2]) Tryz.call175 Tryz.func175 rfl rfl (Nat.le_of_ble_eq_true rfl) (Nat.le_of_ble_eq_true rfl) (fun j h => absurd h (Nat.not_lt_zero j)) ?_
  refine sr [(1, .ptr 0 0 0)] [some (.row 2 [.agg [vt a0.Name, eS 2 eRange a0.Ranges]])] ?_
  refine TriE.seq ?_
  refine sj ?_
  refine rn 2 [(1, .ptr 0 0 0), (4, eS 2 eRange a0.Ranges)] [some (.row 2 [.agg [vt a0.Name, eS 2 eRange a0.Ranges]])] ?_
  refine jv (vi ((a0.Ranges.length : Nat) : Int)) (cy (I0 5 (.len 0 (.t 4)))) (ok_len_m rfl) rfl ?_
  obtain ⟨y1, hy1, h⟩ := bind_some h
  refine RegJ.op (Op1.call (y' := vb ((decide (1 ≤ ((a0.Ranges.length : Nat) : Int))) && (decide (((a0.Ranges.length : Nat) : Int) ≤ 6)))) (obx := []) (oby := []) (ob2 := [some (.row 2 [.agg [vt a0.Name, eS 2 eRange a0.Ranges]])]) _ _ (cy (I0 6 (.call 91 [(.t 5), (.c (.p (.int .i64 1))), (.c (.p (.int .i64 6)))]))) rfl (restore_within_ok n ((a0.Ranges.length : Nat) : Int) 1 6 y1 hy1) [] (by kernel_rfl) (.cons rfl (.cons rfl (.cons rfl (.cons rfl .nil)))) (by kernel_rfl) (by kernel_rfl) ObsRen.nil (by kernel_rfl) ObsRen.nil (by kernel_rfl)) ?_
  refine jq 1 [(1, .ptr 0 0 0), (7, vb (!((decide (1 ≤ ((a0.Ranges.length : Nat) : Int))) && (decide (((a0.Ranges.length : Nat) : Int) ≤ 6)))))] [some (.row 2 [.agg [vt a0.Name, eS 2 eRange a0.Ranges]])] ?_
  refine TriE.cond (b := !((decide (1 ≤ ((a0.Ranges.length : Nat) : Int))) && (decide (((a0.Ranges.length : Nat) : Int) ≤ 6)))) rfl (fun c1 => ?_) (fun c1 => ?_)
  · have h := cond_t h c1
    refine sr [(2, vi 10)] [some (.row 2 [.agg [vt a0.Name, eS 2 eRange a0.Ranges]])] ?_
    refine TriE.ret ?_
    have h := Option.some.inj h
    subst h
    exact DoneS.ret (S' := ⟨[(2, vi 10)], []⟩) (sc [] (by decide) (by kernel_rfl) ObRen.nil rfl rfl) rfl rfl
  have h := cond_f h c1
  refine TriE.skip ?_
  refine TriE.seq ?_
  refine sj ?_
  refine rn 2 [(9, eS 2 eRange a0.Ranges)] [some (.row 2 [.agg [vt a0.Name, eS 2 eRange a0.Ranges]])] ?_
  obtain ⟨y2, hy2, h⟩ := bind_some h
  refine RegJ.op (Op1.call (y' := vb y2) (obx := []) (oby := []) (ob2 := [some (.row 2 [.agg [vt a0.Name, eS 2 eRange a0.Ranges]])]) _ _ (cy (I0 10 (.call 202 [(.t 9), (.c (.fn (.func 203) [] []))]))) rfl (slices_ContainsFunc_Range_ok n a0.Ranges y2 hy2) [] (by kernel_rfl) (.cons rfl (.cons rfl (.cons rfl .nil))) (by kernel_rfl) (by kernel_rfl) ObsRen.nil (by kernel_rfl) ObsRen.nil (by kernel_rfl)) ?_
  refine jp [(10, vb y2)] ?_
  refine TriE.cond (b := y2) rfl (fun c2 => ?_) (fun c2 => ?_)
  · have h := cond_t h c2
    refine sr [(2, vi 2)] [some (.row 2 [.agg [vt a0.Name, eS 2 eRange a0.Ranges]])] ?_
    refine TriE.ret ?_
    have h := Option.some.inj h
    subst h
    exact DoneS.ret (S' := ⟨[(2, vi 2)], []⟩) (sc [] (by decide) (by kernel_rfl) ObRen.nil rfl rfl) rfl rfl
  have h := cond_f h c2
  refine TriE.skip ?_
  refine sr [(2, vi 0)] [some (.row 2 [.agg [vt a0.Name, eS 2 eRange a0.Ranges]])] ?_
  refine TriE.ret ?_
  have h := Option.some.inj h
  subst h
  exact DoneS.ret (S' := ⟨[(2, vi 0)], []⟩) (sc [] (by decide) (by kernel_rfl) ObRen.nil rfl rfl) rfl rfl
theorem restore_named_WantedPart_ok (n : Nat) (a0 : List WantedPart) (a1 : Int) (r : Int) (h : restore_named_WantedPart n a0 a1 = some r) : FnL Tryz.prog 173 [eS 2 eWantedPart a0, vi a1, .fn (.func 174) [] [], .fn (.func 175) [] []] [] (vi r) [] := by
  dsimp only [restore_named_WantedPart] at h
  refine FnL.ofS (ts := [8]) Tryz.call173 Tryz.func173 rfl rfl (Nat.le_of_ble_eq_true rfl) (Nat.le_of_ble_eq_true rfl) (fun j h => absurd h (Nat.not_lt_zero j)) ?_
  refine sr [(0, eS 2 eWantedPart a0), (1, vi a1), (2, .fn (.func 174) [] []), (3, .fn (.func 175) [] [])] [] ?_
  refine TriE.seq ?_
  refine sj ?_
  refine rn 1 [(0, eS 2 eWantedPart a0), (1, vi a1), (2, .fn (.func 174) [] []), (3, .fn (.func 175) [] []), (14, eS 2 eWantedPart a0)] [] ?_
  refine jv (vi (a0.length : Int)) (cy (I0 15 (.len 0 (.t 14)))) (ok_len_m rfl) rfl ?_
  refine jq 2 [(0, eS 2 eWantedPart a0), (2, .fn (.func 174) [] []), (3, .fn (.func 175) [] []), (17, vb (decide (a1 < (a0.length : Int))))] [] ?_
  refine TriE.cond (b := decide (a1 < (a0.length : Int))) rfl (fun c1 => ?_) (fun c1 => ?_)
  · have h := cond_t h c1
    refine sr [(8, vi 8)] [] ?_
    refine TriE.ret ?_
    have h := Option.some.inj h
    subst h
    exact DoneS.ret (S' := ⟨[(8, vi 8)], []⟩) Sees.refl rfl rfl
  have h := cond_f h c1
  refine TriE.skip ?_
  refine sj ?_
  refine je (.map 0) [some (.mp (mpE vt vb ([] : List (Str × Bool))))] (cy (I0 18 .mkmap)) rfl rfl rfl rfl ?_
  refine jq 1 [(0, eS 2 eWantedPart a0), (2, .fn (.func 174) [] []), (3, .fn (.func 175) [] []), (9, .map 0)] [some (.mp (mpE vt vb ([] : List (Str × Bool))))] ?_
  refine TriE.seqK h (fun (_ : Unit) => St.mk [] []) ?_ ?_
  · rintro ⟨⟩ h
    refine sr [(8, vi 0)] [] ?_
    refine TriE.ret ?_
    have h := Option.some.inj h
    subst h
    exact DoneS.ret (S' := ⟨[(8, vi 0)], []⟩) Sees.refl rfl rfl
  intro k1 h
  refine sj ?_
  refine rn 1 [(2, .fn (.func 174) [] []), (3, .fn (.func 175) [] []), (9, .map 0), (19, eS 2 eWantedPart a0)] [some (.mp (mpE vt vb ([] : List (Str × Bool))))] ?_
  refine jv (vi (a0.length : Int)) (cy (I0 20 (.len 0 (.t 19)))) (ok_len_m rfl) rfl ?_
  refine jq 1 [(2, .fn (.func 174) [] []), (3, .fn (.func 175) [] []), (9, .map 0), (19, eS 2 eWantedPart a0), (20, vi (a0.length : Int)), (21, vi 0)] [some (.mp (mpE vt vb ([] : List (Str × Bool))))] ?_
  refine TriE.block ?_
  refine TriE.sees (S' := ⟨[(2, .fn (.func 174) [] []), (3, .fn (.func 175) [] []), (9, .map 0), (19, eS 2 eWantedPart a0), (20, vi (a0.length : Int)), (21, vi 0)], [some (.mp (mpE vt vb ([] : List (Str × Bool))))]⟩) sy ?_
  refine TriE.loopN h (fun (t : Nat × (List (Str × Bool))) => match t with | (v4, v5) => St.mk [(2, .fn (.func 174) [] []), (3, .fn (.func 175) [] []), (9, .map 0), (19, eS 2 eWantedPart a0), (20, vi (a0.length : Int)), (21, vi v4)] [some (.mp (mpE vt vb v5))]) rfl ?_
  clear h
  rintro back ⟨v4, v5⟩ h
  dsimp only [restore_named_WantedPart_L1] at h
  refine sj ?_
  refine jv (vb (decide (v4 < a0.length))) (cy (I0 22 (.bin .lss false (.t 21) (.t 20)))) (n_lss (i := v4) (j := a0.length) rfl rfl) rfl ?_
  refine jp [(2, .fn (.func 174) [] []), (3, .fn (.func 175) [] []), (9, .map 0), (19, eS 2 eWantedPart a0), (20, vi (a0.length : Int)), (21, vi v4), (22, vb (decide (v4 < a0.length)))] ?_
  refine TriE.seq ?_
  refine TriE.cond (b := decide (v4 < a0.length)) rfl (fun c2 => ?_) (fun c2 => ?_)
  · have h := cond_t h c2
    refine TriE.skip ?_
    refine TriE.seq ?_
    refine TriE.block ?_
    refine sj ?_
    refine jv (.fptr 2 (List.map eWantedPart a0) v4 0) (cy (I0 23 (.iaddr 2 (.t 19) (.t 21)))) (ok_iaddr_m (j := v4) rfl rfl rfl c2) rfl ?_
    refine jv (.agg [vt ((ix a0 v4).Name), eS 2 eRange ((ix a0 v4).Ranges)]) (cy (I0 24 (.load true 2 (.t 23)))) (ok_load_fm (v := .agg [vt ((ix a0 v4).Name), eS 2 eRange ((ix a0 v4).Ranges)]) rfl c2 rfl) rfl ?_
    refine jq 2 [(2, .fn (.func 174) [] []), (3, .fn (.func 175) [] []), (9, .map 0), (19, eS 2 eWantedPart a0), (20, vi (a0.length : Int)), (21, vi v4), (11, .ptr 1 0 0)] [some (.mp (mpE vt vb v5)), some (.row 2 [.agg [vt ((ix a0 v4).Name), eS 2 eRange ((ix a0 v4).Ranges)]])] ?_
    refine TriE.seq ?_
    refine sj ?_
    refine rn 2 [(2, .fn (.func 174) [] []), (3, .fn (.func 175) [] []), (9, .map 0), (19, eS 2 eWantedPart a0), (20, vi (a0.length : Int)), (21, vi v4), (11, .ptr 1 0 0), (25, .fn (.func 174) [] []), (26, .agg [vt ((ix a0 v4).Name), eS 2 eRange ((ix a0 v4).Ranges)])] [some (.mp (mpE vt vb v5)), some (.row 2 [.agg [vt ((ix a0 v4).Name), eS 2 eRange ((ix a0 v4).Ranges)]])] ?_
    obtain ⟨y6, hy6, h⟩ := bind_some h
    refine RegJ.op (Op1.dyn (y' := vt ((ix a0 v4).Name)) (obx := []) (oby := []) (ob2 := [some (.mp (mpE vt vb v5)), some (.row 2 [.agg [vt ((ix a0 v4).Name), eS 2 eRange ((ix a0 v4).Ranges)]])]) _ _ _ (cy (I0 27 (.dyn (.t 25) [(.t 26)]))) rfl rfl (restore_checkBoth_f1_ok n (ix a0 v4) y6 hy6) [] (by kernel_rfl) (.cons rfl (.cons rfl .nil)) (by kernel_rfl) (by kernel_rfl) ObsRen.nil (by kernel_rfl) ObsRen.nil (by kernel_rfl)) ?_
    refine jq 1 [(2, .fn (.func 174) [] []), (3, .fn (.func 175) [] []), (9, .map 0), (19, eS 2 eWantedPart a0), (20, vi (a0.length : Int)), (21, vi v4), (11, .ptr 1 0 0), (12, vt ((ix a0 v4).Name))] [some (.mp (mpE vt vb v5)), some (.row 2 [.agg [vt ((ix a0 v4).Name), eS 2 eRange ((ix a0 v4).Ranges)]])] ?_
    refine TriE.block ?_
    refine sj ?_
    refine rn 1 [(2, .fn (.func 174) [] []), (3, .fn (.func 175) [] []), (9, .map 0), (19, eS 2 eWantedPart a0), (20, vi (a0.length : Int)), (21, vi v4), (11, .ptr 1 0 0), (12, vt ((ix a0 v4).Name)), (31, vt ((ix a0 v4).Name))] [some (.mp (mpE vt vb v5)), some (.row 2 [.agg [vt ((ix a0 v4).Name), eS 2 eRange ((ix a0 v4).Ranges)]])] ?_
    obtain ⟨y7, hy7, h⟩ := bind_some h
    refine RegJ.op (Op1.call (y' := vb y7) (obx := []) (oby := []) (ob2 := [some (.mp (mpE vt vb v5)), some (.row 2 [.agg [vt ((ix a0 v4).Name), eS 2 eRange ((ix a0 v4).Ranges)]])]) _ _ (cy (I0 32 (.call 89 [(.t 31)]))) rfl (restore_isName_ok n ((ix a0 v4).Name) y7 hy7) [] (by kernel_rfl) (.cons rfl (.cons rfl .nil)) (by kernel_rfl) (by kernel_rfl) ObsRen.nil (by kernel_rfl) ObsRen.nil (by kernel_rfl)) ?_
    refine jq 2 [(2, .fn (.func 174) [] []), (3, .fn (.func 175) [] []), (9, .map 0), (19, eS 2 eWantedPart a0), (20, vi (a0.length : Int)), (21, vi v4), (11, .ptr 1 0 0), (12, vt ((ix a0 v4).Name)), (30, vb (!y7))] [some (.mp (mpE vt vb v5)), some (.row 2 [.agg [vt ((ix a0 v4).Name), eS 2 eRange ((ix a0 v4).Ranges)]])] ?_
    refine TriE.cond (b := !y7) rfl (fun c3 => ?_) (fun c3 => ?_)
    · have h := cond_t h c3
      refine sr [(8, vi 4)] [some (.mp (mpE vt vb v5)), some (.row 2 [.agg [vt ((ix a0 v4).Name), eS 2 eRange ((ix a0 v4).Ranges)]])] ?_
      refine TriE.ret ?_
      have h := Option.some.inj h
      subst h
      exact DoneS.ret (S' := ⟨[(8, vi 4)], []⟩) (sc [] (by decide) (by kernel_rfl) ObRen.nil rfl rfl) rfl rfl
    have h := cond_f h c3
    refine sj ?_
    refine rn 2 [(2, .fn (.func 174) [] []), (3, .fn (.func 175) [] []), (9, .map 0), (19, eS 2 eWantedPart a0), (20, vi (a0.length : Int)), (21, vi v4), (11, .ptr 1 0 0), (12, vt ((ix a0 v4).Name)), (35, .map 0), (36, vt ((ix a0 v4).Name))] [some (.mp (mpE vt vb v5)), some (.row 2 [.agg [vt ((ix a0 v4).Name), eS 2 eRange ((ix a0 v4).Ranges)]])] ?_
    refine jv (vb (Option.getD (List.lookup ((ix a0 v4).Name) v5) false)) (cy (I0 37 (.lookup true (.p (.bool false)) false (.t 35) (.t 36)))) (ok_lookup_s (l := v5) (ev := vb) (z0 := false) rfl rfl rfl rfl) rfl ?_
    refine jq 1 [(2, .fn (.func 174) [] []), (3, .fn (.func 175) [] []), (9, .map 0), (19, eS 2 eWantedPart a0), (20, vi (a0.length : Int)), (21, vi v4), (11, .ptr 1 0 0), (12, vt ((ix a0 v4).Name)), (34, vb (Option.getD (List.lookup ((ix a0 v4).Name) v5) false))] [some (.mp (mpE vt vb v5)), some (.row 2 [.agg [vt ((ix a0 v4).Name), eS 2 eRange ((ix a0 v4).Ranges)]])] ?_
    refine TriE.cond (b := (Option.getD (List.lookup ((ix a0 v4).Name) v5) false)) rfl (fun c4 => ?_) (fun c4 => ?_)
    · have h := cond_t h c4
      refine sr [(8, vi 5)] [some (.mp (mpE vt vb v5)), some (.row 2 [.agg [vt ((ix a0 v4).Name), eS 2 eRange ((ix a0 v4).Ranges)]])] ?_
      refine TriE.ret ?_
      have h := Option.some.inj h
      subst h
      exact DoneS.ret (S' := ⟨[(8, vi 5)], []⟩) (sc [] (by decide) (by kernel_rfl) ObRen.nil rfl rfl) rfl rfl
    have h := cond_f h c4
    refine TriE.regJ ?_
    refine rn 2 [(2, .fn (.func 174) [] []), (3, .fn (.func 175) [] []), (9, .map 0), (19, eS 2 eWantedPart a0), (20, vi (a0.length : Int)), (21, vi v4), (11, .ptr 1 0 0), (28, .map 0), (29, vt ((ix a0 v4).Name))] [some (.mp (mpE vt vb v5)), some (.row 2 [.agg [vt ((ix a0 v4).Name), eS 2 eRange ((ix a0 v4).Ranges)]])] ?_
    refine je (.undef) [some (.mp (mpE vt vb (mPut ((ix a0 v4).Name) true v5))), some (.row 2 [.agg [vt ((ix a0 v4).Name), eS 2 eRange ((ix a0 v4).Ranges)]])] (cy (IN (.mapset true (.t 28) (.t 29) (.c (.p (.bool true)))))) (ok_mapset_s (l := v5) (ev := vb) (v := true) rfl rfl rfl rfl) rfl rfl rfl ?_
    refine jp [(2, .fn (.func 174) [] []), (3, .fn (.func 175) [] []), (9, .map 0), (19, eS 2 eWantedPart a0), (20, vi (a0.length : Int)), (21, vi v4), (11, .ptr 1 0 0)] ?_
    refine sj ?_
    refine rn 2 [(2, .fn (.func 174) [] []), (3, .fn (.func 175) [] []), (9, .map 0), (19, eS 2 eWantedPart a0), (20, vi (a0.length : Int)), (21, vi v4), (38, .fn (.func 175) [] []), (39, .agg [vt ((ix a0 v4).Name), eS 2 eRange ((ix a0 v4).Ranges)])] [some (.mp (mpE vt vb (mPut ((ix a0 v4).Name) true v5))), some (.row 2 [.agg [vt ((ix a0 v4).Name), eS 2 eRange ((ix a0 v4).Ranges)]])] ?_
    obtain ⟨y8, hy8, h⟩ := bind_some h
    refine RegJ.op (Op1.dyn (y' := vi y8) (obx := []) (oby := []) (ob2 := [some (.mp (mpE vt vb (mPut ((ix a0 v4).Name) true v5))), some (.row 2 [.agg [vt ((ix a0 v4).Name), eS 2 eRange ((ix a0 v4).Ranges)]])]) _ _ _ (cy (I0 40 (.dyn (.t 38) [(.t 39)]))) rfl rfl (restore_checkRanges_ok n (ix a0 v4) y8 hy8) [] (by kernel_rfl) (.cons rfl (.cons rfl .nil)) (by kernel_rfl) (by kernel_rfl) ObsRen.nil (by kernel_rfl) ObsRen.nil (by kernel_rfl)) ?_
    refine jq 1 [(2, .fn (.func 174) [] []), (3, .fn (.func 175) [] []), (9, .map 0), (19, eS 2 eWantedPart a0), (20, vi (a0.length : Int)), (21, vi v4), (13, vi y8)] [some (.mp (mpE vt vb (mPut ((ix a0 v4).Name) true v5))), some (.row 2 [.agg [vt ((ix a0 v4).Name), eS 2 eRange ((ix a0 v4).Ranges)]])] ?_
    refine sr [(2, .fn (.func 174) [] []), (3, .fn (.func 175) [] []), (9, .map 0), (19, eS 2 eWantedPart a0), (20, vi (a0.length : Int)), (21, vi v4), (13, vi y8), (42, vb (y8 != (0 : Int)))] [some (.mp (mpE vt vb (mPut ((ix a0 v4).Name) true v5))), some (.row 2 [.agg [vt ((ix a0 v4).Name), eS 2 eRange ((ix a0 v4).Ranges)]])] ?_
    refine TriE.cond (b := (y8 != (0 : Int))) rfl (fun c5 => ?_) (fun c5 => ?_)
    · have h := cond_t h c5
      refine sr [(8, vi y8)] [some (.mp (mpE vt vb (mPut ((ix a0 v4).Name) true v5))), some (.row 2 [.agg [vt ((ix a0 v4).Name), eS 2 eRange ((ix a0 v4).Ranges)]])] ?_
      refine TriE.ret ?_
      have h := Option.some.inj h
      subst h
      exact DoneS.ret (S' := ⟨[(8, vi y8)], []⟩) (sc [] (by decide) (by kernel_rfl) ObRen.nil rfl rfl) rfl rfl
    have h := cond_f h c5
    refine TriE.skip ?_
    refine TriE.regJ ?_
    obtain ⟨c6, h⟩ := chk_some h
    refine jv (vi ((v4 + 1 : Nat) : Int)) (cy (I0 44 (.bin .add false (.t 21) (.c (.p (.int .i64 1)))))) (r_addn (i := v4) (j := 1) rfl rfl c6) rfl ?_
    refine jq 1 [(2, .fn (.func 174) [] []), (3, .fn (.func 175) [] []), (9, .map 0), (19, eS 2 eWantedPart a0), (20, vi (a0.length : Int)), (21, vi ((v4 + 1 : Nat) : Int))] [some (.mp (mpE vt vb (mPut ((ix a0 v4).Name) true v5))), some (.row 2 [.agg [vt ((ix a0 v4).Name), eS 2 eRange ((ix a0 v4).Ranges)]])] ?_
    exact Vs.intro (sc [0] (by decide) (by kernel_rfl) (obRen_mp vt_frz vb_frz rfl .nil) rfl rfl) ⟨(v4 + 1, (mPut ((ix a0 v4).Name) true v5)), rfl, h⟩
  have h := cond_f h c2
  refine TriE.exit ?_
  exact Vs.intro (sc [] (by decide) (by kernel_rfl) ObRen.nil rfl rfl) ⟨(), rfl, h⟩
theorem restore_checkBoth_f2_ok (n : Nat) (a0 : OfferedPart) (r : Unit) (h : restore_checkBoth_f2 n a0 = some r) : FnL Tryz.prog 177 [.agg [vt a0.Name, eS 1 vi a0.Sizes]] [] (vt a0.Name) [] := by
  dsimp only [restore_checkBoth_f2] at h
  refine FnL.ofS (ts := [2]) Tryz.call177 Tryz.func177 rfl rfl (Nat.le_of_ble_eq_true rfl) (Nat.le_of_ble_eq_true rfl) (fun j h => absurd h (Nat.not_lt_zero j)) ?_
  refine sr [(1, .ptr 0 0 0)] [some (.row 2 [.agg [vt a0.Name, eS 1 vi a0.Sizes]])] ?_
  refine sr [(2, vt a0.Name)] [some (.row 2 [.agg [vt a0.Name, eS 1 vi a0.Sizes]])] ?_
  refine TriE.ret ?_
  have h := Option.some.inj h
  subst h
  exact DoneS.ret (S' := ⟨[(2, vt a0.Name)], []⟩) (sc [] (by decide) (by kernel_rfl) ObRen.nil rfl rfl) rfl rfl
theorem restore_checkSizes_f1_ok (n : Nat) (a0 : Int) (r : Unit) (h : restore_checkSizes_f1 n a0 = some r) : FnL Tryz.prog 204 [vi a0] [] (vb (!((decide (0 ≤ a0)) && (decide (a0 ≤ 1000000))))) [] := by
  dsimp only [restore_checkSizes_f1] at h
  refine FnL.ofS (ts := [2]) Tryz.call204 Tryz.func204 rfl rfl (Nat.le_of_ble_eq_true rfl) (Nat.le_of_ble_eq_true rfl) (fun j h => absurd h (Nat.not_lt_zero j)) ?_
  refine sr [(0, vi a0)] [] ?_
  refine sj ?_
  refine rn 1 [(3, vi a0)] [] ?_
  obtain ⟨y1, hy1, h⟩ := bind_some h
  refine RegJ.op (Op1.call (y' := vb ((decide (0 ≤ a0)) && (decide (a0 ≤ 1000000)))) (obx := []) (oby := []) (ob2 := []) _ _ (cy (I0 4 (.call 91 [(.t 3), (.c (.p (.int .i64 0))), (.c (.p (.int .i64 1000000)))]))) rfl (restore_within_ok n a0 0 1000000 y1 hy1) [] (by kernel_rfl) (.cons rfl (.cons rfl (.cons rfl (.cons rfl .nil)))) (by kernel_rfl) (by kernel_rfl) ObsRen.nil (by kernel_rfl) ObsRen.nil (by kernel_rfl)) ?_
  refine jq 2 [(2, vb (!((decide (0 ≤ a0)) && (decide (a0 ≤ 1000000)))))] [] ?_
  refine TriE.ret ?_
  have h := Option.some.inj h
  subst h
  exact DoneS.ret (S' := ⟨[(2, vb (!((decide (0 ≤ a0)) && (decide (a0 ≤ 1000000)))))], []⟩) Sees.refl rfl rfl
theorem slices_IndexFunc_int_ok (n : Nat) (a0 : List Int) (r : Int) (h : slices_IndexFunc_int n a0 = some r) : FnL Tryz.prog 180 [eS 1 vi a0, .fn (.func 204) [] []] [] (vi r) [] := by
  dsimp only [slices_IndexFunc_int] at h
  refine FnL.ofS (ts := [4]) Tryz.call180 Tryz.func180 rfl rfl (Nat.le_of_ble_eq_true rfl) (Nat.le_of_ble_eq_true rfl) (fun j h => absurd h (Nat.not_lt_zero j)) ?_
  refine sr [(0, eS 1 vi a0), (1, .fn (.func 204) [] [])] [] ?_
  refine TriE.seqK h (fun (_ : Unit) => St.mk [] []) ?_ ?_
  · rintro ⟨⟩ h
    refine sr [(4, vi (-1))] [] ?_
    refine TriE.ret ?_
    have h := Option.some.inj h
    subst h
    exact DoneS.ret (S' := ⟨[(4, vi (-1))], []⟩) Sees.refl rfl rfl
  intro k1 h
  refine sj ?_
  refine rn 1 [(0, eS 1 vi a0), (1, .fn (.func 204) [] []), (6, eS 1 vi a0)] [] ?_
  refine jv (vi (a0.length : Int)) (cy (I0 7 (.len 0 (.t 6)))) (ok_len_m rfl) rfl ?_
  refine jq 1 [(0, eS 1 vi a0), (1, .fn (.func 204) [] []), (7, vi (a0.length : Int)), (8, vi 0)] [] ?_
  refine TriE.block ?_
  refine TriE.sees (S' := ⟨[(0, eS 1 vi a0), (1, .fn (.func 204) [] []), (7, vi (a0.length : Int)), (8, vi 0)], []⟩) sy ?_
  refine TriE.loopN h (fun (v2 : Nat) => St.mk [(0, eS 1 vi a0), (1, .fn (.func 204) [] []), (7, vi (a0.length : Int)), (8, vi v2)] []) rfl ?_
  clear h
  rintro back v2 h
  dsimp only [slices_IndexFunc_int_L1] at h
  refine sj ?_
  refine jv (vb (decide (v2 < a0.length))) (cy (I0 9 (.bin .lss false (.t 8) (.t 7)))) (n_lss (i := v2) (j := a0.length) rfl rfl) rfl ?_
  refine jp [(0, eS 1 vi a0), (1, .fn (.func 204) [] []), (7, vi (a0.length : Int)), (8, vi v2), (9, vb (decide (v2 < a0.length)))] ?_
  refine TriE.seq ?_
  refine TriE.cond (b := decide (v2 < a0.length)) rfl (fun c1 => ?_) (fun c1 => ?_)
  · have h := cond_t h c1
    refine TriE.skip ?_
    refine TriE.seq ?_
    refine TriE.block ?_
    refine sr [(0, eS 1 vi a0), (1, .fn (.func 204) [] []), (7, vi (a0.length : Int)), (8, vi v2), (5, vi v2)] [] ?_
    refine sj ?_
    refine rn 3 [(0, eS 1 vi a0), (1, .fn (.func 204) [] []), (7, vi (a0.length : Int)), (8, vi v2), (5, vi v2), (11, .fn (.func 204) [] []), (12, eS 1 vi a0), (13, vi v2)] [] ?_
    refine jv (.fptr 1 (List.map vi a0) v2 0) (cy (I0 14 (.iaddr 1 (.t 12) (.t 13)))) (ok_iaddr_m (j := v2) rfl rfl rfl c1) rfl ?_
    refine jv (vi (ix a0 v2)) (cy (I0 15 (.load false 1 (.t 14)))) (ok_load_fm (v := vi (ix a0 v2)) rfl c1 rfl) rfl ?_
    obtain ⟨y3, hy3, h⟩ := bind_some h
    refine RegJ.op (Op1.dyn (y' := vb (!((decide (0 ≤ (ix a0 v2))) && (decide ((ix a0 v2) ≤ 1000000))))) (obx := []) (oby := []) (ob2 := []) _ _ _ (cy (I0 16 (.dyn (.t 11) [(.t 15)]))) rfl rfl (restore_checkSizes_f1_ok n (ix a0 v2) y3 hy3) [] (by kernel_rfl) (.cons rfl (.cons rfl .nil)) (by kernel_rfl) (by kernel_rfl) ObsRen.nil (by kernel_rfl) ObsRen.nil (by kernel_rfl)) ?_
    refine jp [(0, eS 1 vi a0), (1, .fn (.func 204) [] []), (7, vi (a0.length : Int)), (8, vi v2), (5, vi v2), (16, vb (!((decide (0 ≤ (ix a0 v2))) && (decide ((ix a0 v2) ≤ 1000000)))))] ?_
    refine TriE.cond (b := !((decide (0 ≤ (ix a0 v2))) && (decide ((ix a0 v2) ≤ 1000000)))) rfl (fun c2 => ?_) (fun c2 => ?_)
    · have h := cond_t h c2
      refine sr [(4, vi v2)] [] ?_
      refine TriE.ret ?_
      have h := Option.some.inj h
      subst h
      exact DoneS.ret (S' := ⟨[(4, vi v2)], []⟩) Sees.refl rfl rfl
    have h := cond_f h c2
    refine TriE.skip ?_
    refine TriE.regJ ?_
    obtain ⟨c3, h⟩ := chk_some h
    refine jv (vi ((v2 + 1 : Nat) : Int)) (cy (I0 18 (.bin .add false (.t 8) (.c (.p (.int .i64 1)))))) (r_addn (i := v2) (j := 1) rfl rfl c3) rfl ?_
    refine jq 1 [(0, eS 1 vi a0), (1, .fn (.func 204) [] []), (7, vi (a0.length : Int)), (8, vi ((v2 + 1 : Nat) : Int))] [] ?_
    exact Vs.intro sy ⟨(v2 + 1), rfl, h⟩
  have h := cond_f h c1
  refine TriE.exit ?_
  exact Vs.intro sy ⟨(), rfl, h⟩
theorem slices_ContainsFunc_int_ok (n : Nat) (a0 : List Int) (r : Bool) (h : slices_ContainsFunc_int n a0 = some r) : FnL Tryz.prog 126 [eS 1 vi a0, .fn (.func 204) [] []] [] (vb r) [] := by
  dsimp only [slices_ContainsFunc_int] at h
  refine FnL.ofS (ts := [4]) Tryz.call126 Tryz.func126 rfl rfl (Nat.le_of_ble_eq_true rfl) (Nat.le_of_ble_eq_true rfl) (fun j h => absurd h (Nat.not_lt_zero j)) ?_
  refine sr [(0, eS 1 vi a0), (1, .fn (.func 204) [] [])] [] ?_
  refine sj ?_
  refine rn 2 [(5, eS 1 vi a0), (6, .fn (.func 204) [] [])] [] ?_
  obtain ⟨y1, hy1, h⟩ := bind_some h
  refine RegJ.op (Op1.call (y' := vi y1) (obx := []) (oby := []) (ob2 := []) _ _ (cy (I0 7 (.call 180 [(.t 5), (.t 6)]))) rfl (slices_IndexFunc_int_ok n a0 y1 hy1) [] (by kernel_rfl) (.cons rfl (.cons rfl (.cons rfl .nil))) (by kernel_rfl) (by kernel_rfl) ObsRen.nil (by kernel_rfl) ObsRen.nil (by kernel_rfl)) ?_
  refine jq 2 [(4, vb (decide ((0 : Int) ≤ y1)))] [] ?_
  refine TriE.ret ?_
  have h := Option.some.inj h
  subst h
  exact DoneS.ret (S' := ⟨[(4, vb (decide ((0 : Int) ≤ y1)))], []⟩) Sees.refl rfl rfl
theorem restore_checkSizes_ok (n : Nat) (a0 : OfferedPart) (r : Int) (h : restore_checkSizes n a0 = some r) : FnL Tryz.prog 178 [.agg [vt a0.Name, eS 1 vi a0.Sizes]] [] (vi r) [] := by
  dsimp only [restore_checkSizes] at h
  refine FnL.ofS (ts := [2]) Tryz.call178 Tryz.func178 rfl rfl (Nat.le_of_ble_eq_true rfl) (Nat.le_of_ble_eq_true rfl) (fun j h => absurd h (Nat.not_lt_zero j)) ?_
  refine sr [(1, .ptr 0 0 0)] [some (.row 2 [.agg [vt a0.Name, eS 1 vi a0.Sizes]])] ?_
  refine TriE.seq ?_
  refine sj ?_
  refine rn 2 [(1, .ptr 0 0 0), (4, eS 1 vi a0.Sizes)] [some (.row 2 [.agg [vt a0.Name, eS 1 vi a0.Sizes]])] ?_
  refine jv (vi ((a0.Sizes.length : Nat) : Int)) (cy (I0 5 (.len 0 (.t 4)))) (ok_len_m rfl) rfl ?_
  obtain ⟨y1, hy1, h⟩ := bind_some h
  refine RegJ.op (Op1.call (y' := vb ((decide (1 ≤ ((a0.Sizes.length : Nat) : Int))) && (decide (((a0.Sizes.length : Nat) : Int) ≤ 6)))) (obx := []) (oby := []) (ob2 := [some (.row 2 [.agg [vt a0.Name, eS 1 vi a0.Sizes]])]) _ _ (cy (I0 6 (.call 91 [(.t 5), (.c (.p (.int .i64 1))), (.c (.p (.int .i64 6)))]))) rfl (restore_within_ok n ((a0.Sizes.length : Nat) : Int) 1 6 y1 hy1) [] (by kernel_rfl) (.cons rfl (.cons rfl (.cons rfl (.cons rfl .nil)))) (by kernel_rfl) (by kernel_rfl) ObsRen.nil (by kernel_rfl) ObsRen.nil (by kernel_rfl)) ?_
  refine jq 1 [(1, .ptr 0 0 0), (7, vb (!((decide (1 ≤ ((a0.Sizes.length : Nat) : Int))) && (decide (((a0.Sizes.length : Nat) : Int) ≤ 6)))))] [some (.row 2 [.agg [vt a0.Name, eS 1 vi a0.Sizes]])] ?_
  refine TriE.cond (b := !((decide (1 ≤ ((a0.Sizes.length : Nat) : Int))) && (decide (((a0.Sizes.length : Nat) : Int) ≤ 6)))) rfl (fun c1 => ?_) (fun c1 => ?_)
  · have h := cond_t h c1
    refine sr [(2, vi 10)] [some (.row 2 [.agg [vt a0.Name, eS 1 vi a0.Sizes]])] ?_
    refine TriE.ret ?_
    have h := Option.some.inj h
    subst h
    exact DoneS.ret (S' := ⟨[(2, vi 10)], []⟩) (sc [] (by decide) (by kernel_rfl) ObRen.nil rfl rfl) rfl rfl
  have h := cond_f h c1
  refine TriE.skip ?_
  refine TriE.seq ?_
  refine sj ?_
  refine rn 2 [(9, eS 1 vi a0.Sizes)] [some (.row 2 [.agg [vt a0.Name, eS 1 vi a0.Sizes]])] ?_
  obtain ⟨y2, hy2, h⟩ := bind_some h
  refine RegJ.op (Op1.call (y' := vb y2) (obx := []) (oby := []) (ob2 := [some (.row 2 [.agg [vt a0.Name, eS 1 vi a0.Sizes]])]) _ _ (cy (I0 10 (.call 126 [(.t 9), (.c (.fn (.func 204) [] []))]))) rfl (slices_ContainsFunc_int_ok n a0.Sizes y2 hy2) [] (by kernel_rfl) (.cons rfl (.cons rfl (.cons rfl .nil))) (by kernel_rfl) (by kernel_rfl) ObsRen.nil (by kernel_rfl) ObsRen.nil (by kernel_rfl)) ?_
  refine jp [(10, vb y2)] ?_
  refine TriE.cond (b := y2) rfl (fun c2 => ?_) (fun c2 => ?_)
  · have h := cond_t h c2
    refine sr [(2, vi 2)] [some (.row 2 [.agg [vt a0.Name, eS 1 vi a0.Sizes]])] ?_
    refine TriE.ret ?_
    have h := Option.some.inj h
    subst h
    exact DoneS.ret (S' := ⟨[(2, vi 2)], []⟩) (sc [] (by decide) (by kernel_rfl) ObRen.nil rfl rfl) rfl rfl
  have h := cond_f h c2
  refine TriE.skip ?_
  refine sr [(2, vi 0)] [some (.row 2 [.agg [vt a0.Name, eS 1 vi a0.Sizes]])] ?_
  refine TriE.ret ?_
  have h := Option.some.inj h
  subst h
  exact DoneS.ret (S' := ⟨[(2, vi 0)], []⟩) (sc [] (by decide) (by kernel_rfl) ObRen.nil rfl rfl) rfl rfl
theorem restore_named_OfferedPart_ok (n : Nat) (a0 : List OfferedPart) (a1 : Int) (r : Int) (h : restore_named_OfferedPart n a0 a1 = some r) : FnL Tryz.prog 176 [eS 2 eOfferedPart a0, vi a1, .fn (.func 177) [] [], .fn (.func 178) [] []] [] (vi r) [] := by
  dsimp only [restore_named_OfferedPart] at h
  refine FnL.ofS (ts := [8]) Tryz.call176 Tryz.func176 rfl rfl (Nat.le_of_ble_eq_true rfl) (Nat.le_of_ble_eq_true rfl) (fun j h => absurd h (Nat.not_lt_zero j)) ?_
  refine sr [(0, eS 2 eOfferedPart a0), (1, vi a1), (2, .fn (.func 177) [] []), (3, .fn (.func 178) [] [])] [] ?_
  refine TriE.seq ?_
  refine sj ?_
  refine rn 1 [(0, eS 2 eOfferedPart a0), (1, vi a1), (2, .fn (.func 177) [] []), (3, .fn (.func 178) [] []), (14, eS 2 eOfferedPart a0)] [] ?_
  refine jv (vi (a0.length : Int)) (cy (I0 15 (.len 0 (.t 14)))) (ok_len_m rfl) rfl ?_
  refine jq 2 [(0, eS 2 eOfferedPart a0), (2, .fn (.func 177) [] []), (3, .fn (.func 178) [] []), (17, vb (decide (a1 < (a0.length : Int))))] [] ?_
  refine TriE.cond (b := decide (a1 < (a0.length : Int))) rfl (fun c1 => ?_) (fun c1 => ?_)
  · have h := cond_t h c1
    refine sr [(8, vi 8)] [] ?_
    refine TriE.ret ?_
    have h := Option.some.inj h
    subst h
    exact DoneS.ret (S' := ⟨[(8, vi 8)], []⟩) Sees.refl rfl rfl
  have h := cond_f h c1
  refine TriE.skip ?_
  refine sj ?_
  refine je (.map 0) [some (.mp (mpE vt vb ([] : List (Str × Bool))))] (cy (I0 18 .mkmap)) rfl rfl rfl rfl ?_
  refine jq 1 [(0, eS 2 eOfferedPart a0), (2, .fn (.func 177) [] []), (3, .fn (.func 178) [] []), (9, .map 0)] [some (.mp (mpE vt vb ([] : List (Str × Bool))))] ?_
  refine TriE.seqK h (fun (_ : Unit) => St.mk [] []) ?_ ?_
  · rintro ⟨⟩ h
    refine sr [(8, vi 0)] [] ?_
    refine TriE.ret ?_
    have h := Option.some.inj h
    subst h
    exact DoneS.ret (S' := ⟨[(8, vi 0)], []⟩) Sees.refl rfl rfl
  intro k1 h
  refine sj ?_
  refine rn 1 [(2, .fn (.func 177) [] []), (3, .fn (.func 178) [] []), (9, .map 0), (19, eS 2 eOfferedPart a0)] [some (.mp (mpE vt vb ([] : List (Str × Bool))))] ?_
  refine jv (vi (a0.length : Int)) (cy (I0 20 (.len 0 (.t 19)))) (ok_len_m rfl) rfl ?_
  refine jq 1 [(2, .fn (.func 177) [] []), (3, .fn (.func 178) [] []), (9, .map 0), (19, eS 2 eOfferedPart a0), (20, vi (a0.length : Int)), (21, vi 0)] [some (.mp (mpE vt vb ([] : List (Str × Bool))))] ?_
  refine TriE.block ?_
  refine TriE.sees (S' := ⟨[(2, .fn (.func 177) [] []), (3, .fn (.func 178) [] []), (9, .map 0), (19, eS 2 eOfferedPart a0), (20, vi (a0.length : Int)), (21, vi 0)], [some (.mp (mpE vt vb ([] : List (Str × Bool))))]⟩) sy ?_
  refine TriE.loopN h (fun (t : Nat × (List (Str × Bool))) => match t with | (v4, v5) => St.mk [(2, .fn (.func 177) [] []), (3, .fn (.func 178) [] []), (9, .map 0), (19, eS 2 eOfferedPart a0), (20, vi (a0.length : Int)), (21, vi v4)] [some (.mp (mpE vt vb v5))]) rfl ?_
  clear h
  rintro back ⟨v4, v5⟩ h
  dsimp only [restore_named_OfferedPart_L1] at h
  refine sj ?_
  refine jv (vb (decide (v4 < a0.length))) (cy (I0 22 (.bin .lss false (.t 21) (.t 20)))) (n_lss (i := v4) (j := a0.length) rfl rfl) rfl ?_
  refine jp [(2, .fn (.func 177) [] []), (3, .fn (.func 178) [] []), (9, .map 0), (19, eS 2 eOfferedPart a0), (20, vi (a0.length : Int)), (21, vi v4), (22, vb (decide (v4 < a0.length)))] ?_
  refine TriE.seq ?_
  refine TriE.cond (b := decide (v4 < a0.length)) rfl (fun c2 => ?_) (fun c2 => ?_)
  · have h := cond_t h c2
    refine TriE.skip ?_
    refine TriE.seq ?_
    refine TriE.block ?_
    refine sj ?_
    refine jv (.fptr 2 (List.map eOfferedPart a0) v4 0) (cy (I0 23 (.iaddr 2 (.t 19) (.t 21)))) (ok_iaddr_m (j := v4) rfl rfl rfl c2) rfl ?_
    refine jv (.agg [vt ((ix a0 v4).Name), eS 1 vi ((ix a0 v4).Sizes)]) (cy (I0 24 (.load true 2 (.t 23)))) (ok_load_fm (v := .agg [vt ((ix a0 v4).Name), eS 1 vi ((ix a0 v4).Sizes)]) rfl c2 rfl) rfl ?_
    refine jq 2 [(2, .fn (.func 177) [] []), (3, .fn (.func 178) [] []), (9, .map 0), (19, eS 2 eOfferedPart a0), (20, vi (a0.length : Int)), (21, vi v4), (11, .ptr 1 0 0)] [some (.mp (mpE vt vb v5)), some (.row 2 [.agg [vt ((ix a0 v4).Name), eS 1 vi ((ix a0 v4).Sizes)]])] ?_
    refine TriE.seq ?_
    refine sj ?_
    refine rn 2 [(2, .fn (.func 177) [] []), (3, .fn (.func 178) [] []), (9, .map 0), (19, eS 2 eOfferedPart a0), (20, vi (a0.length : Int)), (21, vi v4), (11, .ptr 1 0 0), (25, .fn (.func 177) [] []), (26, .agg [vt ((ix a0 v4).Name), eS 1 vi ((ix a0 v4).Sizes)])] [some (.mp (mpE vt vb v5)), some (.row 2 [.agg [vt ((ix a0 v4).Name), eS 1 vi ((ix a0 v4).Sizes)]])] ?_
    obtain ⟨y6, hy6, h⟩ := bind_some h
    refine RegJ.op (Op1.dyn (y' := vt ((ix a0 v4).Name)) (obx := []) (oby := []) (ob2 := [some (.mp (mpE vt vb v5)), some (.row 2 [.agg [vt ((ix a0 v4).Name), eS 1 vi ((ix a0 v4).Sizes)]])]) _ _ _ (cy (I0 27 (.dyn (.t 25) [(.t 26)]))) rfl rfl (restore_checkBoth_f2_ok n (ix a0 v4) y6 hy6) [] (by kernel_rfl) (.cons rfl (.cons rfl .nil)) (by kernel_rfl) (by kernel_rfl) ObsRen.nil (by kernel_rfl) ObsRen.nil (by kernel_rfl)) ?_
    refine jq 1 [(2, .fn (.func 177) [] []), (3, .fn (.func 178) [] []), (9, .map 0), (19, eS 2 eOfferedPart a0), (20, vi (a0.length : Int)), (21, vi v4), (11, .ptr 1 0 0), (12, vt ((ix a0 v4).Name))] [some (.mp (mpE vt vb v5)), some (.row 2 [.agg [vt ((ix a0 v4).Name), eS 1 vi ((ix a0 v4).Sizes)]])] ?_
    refine TriE.block ?_
    refine sj ?_
    refine rn 1 [(2, .fn (.func 177) [] []), (3, .fn (.func 178) [] []), (9, .map 0), (19, eS 2 eOfferedPart a0), (20, vi (a0.length : Int)), (21, vi v4), (11, .ptr 1 0 0), (12, vt ((ix a0 v4).Name)), (31, vt ((ix a0 v4).Name))] [some (.mp (mpE vt vb v5)), some (.row 2 [.agg [vt ((ix a0 v4).Name), eS 1 vi ((ix a0 v4).Sizes)]])] ?_
    obtain ⟨y7, hy7, h⟩ := bind_some h
    refine RegJ.op (Op1.call (y' := vb y7) (obx := []) (oby := []) (ob2 := [some (.mp (mpE vt vb v5)), some (.row 2 [.agg [vt ((ix a0 v4).Name), eS 1 vi ((ix a0 v4).Sizes)]])]) _ _ (cy (I0 32 (.call 89 [(.t 31)]))) rfl (restore_isName_ok n ((ix a0 v4).Name) y7 hy7) [] (by kernel_rfl) (.cons rfl (.cons rfl .nil)) (by kernel_rfl) (by kernel_rfl) ObsRen.nil (by kernel_rfl) ObsRen.nil (by kernel_rfl)) ?_
    refine jq 2 [(2, .fn (.func 177) [] []), (3, .fn (.func 178) [] []), (9, .map 0), (19, eS 2 eOfferedPart a0), (20, vi (a0.length : Int)), (21, vi v4), (11, .ptr 1 0 0), (12, vt ((ix a0 v4).Name)), (30, vb (!y7))] [some (.mp (mpE vt vb v5)), some (.row 2 [.agg [vt ((ix a0 v4).Name), eS 1 vi ((ix a0 v4).Sizes)]])] ?_
    refine TriE.cond (b := !y7) rfl (fun c3 => ?_) (fun c3 => ?_)
    · have h := cond_t h c3
      refine sr [(8, vi 4)] [some (.mp (mpE vt vb v5)), some (.row 2 [.agg [vt ((ix a0 v4).Name), eS 1 vi ((ix a0 v4).Sizes)]])] ?_
      refine TriE.ret ?_
      have h := Option.some.inj h
      subst h
      exact DoneS.ret (S' := ⟨[(8, vi 4)], []⟩) (sc [] (by decide) (by kernel_rfl) ObRen.nil rfl rfl) rfl rfl
    have h := cond_f h c3
    refine sj ?_
    refine rn 2 [(2, .fn (.func 177) [] []), (3, .fn (.func 178) [] []), (9, .map 0), (19, eS 2 eOfferedPart a0), (20, vi (a0.length : Int)), (21, vi v4), (11, .ptr 1 0 0), (12, vt ((ix a0 v4).Name)), (35, .map 0), (36, vt ((ix a0 v4).Name))] [some (.mp (mpE vt vb v5)), some (.row 2 [.agg [vt ((ix a0 v4).Name), eS 1 vi ((ix a0 v4).Sizes)]])] ?_
    refine jv (vb (Option.getD (List.lookup ((ix a0 v4).Name) v5) false)) (cy (I0 37 (.lookup true (.p (.bool false)) false (.t 35) (.t 36)))) (ok_lookup_s (l := v5) (ev := vb) (z0 := false) rfl rfl rfl rfl) rfl ?_
    refine jq 1 [(2, .fn (.func 177) [] []), (3, .fn (.func 178) [] []), (9, .map 0), (19, eS 2 eOfferedPart a0), (20, vi (a0.length : Int)), (21, vi v4), (11, .ptr 1 0 0), (12, vt ((ix a0 v4).Name)), (34, vb (Option.getD (List.lookup ((ix a0 v4).Name) v5) false))] [some (.mp (mpE vt vb v5)), some (.row 2 [.agg [vt ((ix a0 v4).Name), eS 1 vi ((ix a0 v4).Sizes)]])] ?_
    refine TriE.cond (b := (Option.getD (List.lookup ((ix a0 v4).Name) v5) false)) rfl (fun c4 => ?_) (fun c4 => ?_)
    · have h := cond_t h c4
      refine sr [(8, vi 5)] [some (.mp (mpE vt vb v5)), some (.row 2 [.agg [vt ((ix a0 v4).Name), eS 1 vi ((ix a0 v4).Sizes)]])] ?_
      refine TriE.ret ?_
      have h := Option.some.inj h
      subst h
      exact DoneS.ret (S' := ⟨[(8, vi 5)], []⟩) (sc [] (by decide) (by kernel_rfl) ObRen.nil rfl rfl) rfl rfl
    have h := cond_f h c4
    refine TriE.regJ ?_
    refine rn 2 [(2, .fn (.func 177) [] []), (3, .fn (.func 178) [] []), (9, .map 0), (19, eS 2 eOfferedPart a0), (20, vi (a0.length : Int)), (21, vi v4), (11, .ptr 1 0 0), (28, .map 0), (29, vt ((ix a0 v4).Name))] [some (.mp (mpE vt vb v5)), some (.row 2 [.agg [vt ((ix a0 v4).Name), eS 1 vi ((ix a0 v4).Sizes)]])] ?_
    refine je (.undef) [some (.mp (mpE vt vb (mPut ((ix a0 v4).Name) true v5))), some (.row 2 [.agg [vt ((ix a0 v4).Name), eS 1 vi ((ix a0 v4).Sizes)]])] (cy (IN (.mapset true (.t 28) (.t 29) (.c (.p (.bool true)))))) (ok_mapset_s (l := v5) (ev := vb) (v := true) rfl rfl rfl rfl) rfl rfl rfl ?_
    refine jp [(2, .fn (.func 177) [] []), (3, .fn (.func 178) [] []), (9, .map 0), (19, eS 2 eOfferedPart a0), (20, vi (a0.length : Int)), (21, vi v4), (11, .ptr 1 0 0)] ?_
    refine sj ?_
    refine rn 2 [(2, .fn (.func 177) [] []), (3, .fn (.func 178) [] []), (9, .map 0), (19, eS 2 eOfferedPart a0), (20, vi (a0.length : Int)), (21, vi v4), (38, .fn (.func 178) [] []), (39, .agg [vt ((ix a0 v4).Name), eS 1 vi ((ix a0 v4).Sizes)])] [some (.mp (mpE vt vb (mPut ((ix a0 v4).Name) true v5))), some (.row 2 [.agg [vt ((ix a0 v4).Name), eS 1 vi ((ix a0 v4).Sizes)]])] ?_
    obtain ⟨y8, hy8, h⟩ := bind_some h
    refine RegJ.op (Op1.dyn (y' := vi y8) (obx := []) (oby := []) (ob2 := [some (.mp (mpE vt vb (mPut ((ix a0 v4).Name) true v5))), some (.row 2 [.agg [vt ((ix a0 v4).Name), eS 1 vi ((ix a0 v4).Sizes)]])]) _ _ _ (cy (I0 40 (.dyn (.t 38) [(.t 39)]))) rfl rfl (restore_checkSizes_ok n (ix a0 v4) y8 hy8) [] (by kernel_rfl) (.cons rfl (.cons rfl .nil)) (by kernel_rfl) (by kernel_rfl) ObsRen.nil (by kernel_rfl) ObsRen.nil (by kernel_rfl)) ?_
    refine jq 1 [(2, .fn (.func 177) [] []), (3, .fn (.func 178) [] []), (9, .map 0), (19, eS 2 eOfferedPart a0), (20, vi (a0.length : Int)), (21, vi v4), (13, vi y8)] [some (.mp (mpE vt vb (mPut ((ix a0 v4).Name) true v5))), some (.row 2 [.agg [vt ((ix a0 v4).Name), eS 1 vi ((ix a0 v4).Sizes)]])] ?_
    refine sr [(2, .fn (.func 177) [] []), (3, .fn (.func 178) [] []), (9, .map 0), (19, eS 2 eOfferedPart a0), (20, vi (a0.length : Int)), (21, vi v4), (13, vi y8), (42, vb (y8 != (0 : Int)))] [some (.mp (mpE vt vb (mPut ((ix a0 v4).Name) true v5))), some (.row 2 [.agg [vt ((ix a0 v4).Name), eS 1 vi ((ix a0 v4).Sizes)]])] ?_
    refine TriE.cond (b := (y8 != (0 : Int))) rfl (fun c5 => ?_) (fun c5 => ?_)
    · have h := cond_t h c5
      refine sr [(8, vi y8)] [some (.mp (mpE vt vb (mPut ((ix a0 v4).Name) true v5))), some (.row 2 [.agg [vt ((ix a0 v4).Name), eS 1 vi ((ix a0 v4).Sizes)]])] ?_
      refine TriE.ret ?_
      have h := Option.some.inj h
      subst h
      exact DoneS.ret (S' := ⟨[(8, vi y8)], []⟩) (sc [] (by decide) (by kernel_rfl) ObRen.nil rfl rfl) rfl rfl
    have h := cond_f h c5
    refine TriE.skip ?_
    refine TriE.regJ ?_
    obtain ⟨c6, h⟩ := chk_some h
    refine jv (vi ((v4 + 1 : Nat) : Int)) (cy (I0 44 (.bin .add false (.t 21) (.c (.p (.int .i64 1)))))) (r_addn (i := v4) (j := 1) rfl rfl c6) rfl ?_
    refine jq 1 [(2, .fn (.func 177) [] []), (3, .fn (.func 178) [] []), (9, .map 0), (19, eS 2 eOfferedPart a0), (20, vi (a0.length : Int)), (21, vi ((v4 + 1 : Nat) : Int))] [some (.mp (mpE vt vb (mPut ((ix a0 v4).Name) true v5))), some (.row 2 [.agg [vt ((ix a0 v4).Name), eS 1 vi ((ix a0 v4).Sizes)]])] ?_
    exact Vs.intro (sc [0] (by decide) (by kernel_rfl) (obRen_mp vt_frz vb_frz rfl .nil) rfl rfl) ⟨(v4 + 1, (mPut ((ix a0 v4).Name) true v5)), rfl, h⟩
  have h := cond_f h c2
  refine TriE.exit ?_
  exact Vs.intro (sc [] (by decide) (by kernel_rfl) ObRen.nil rfl rfl) ⟨(), rfl, h⟩
theorem restore_checkBoth_ok (n : Nat) (a0 : List WantedPart) (a1 : List OfferedPart) (r : Int) (h : restore_checkBoth n a0 a1 = some r) : FnL Tryz.prog 123 [eS 2 eWantedPart a0, eS 2 eOfferedPart a1] [] (vi r) [] := by
  dsimp only [restore_checkBoth] at h
  refine FnL.ofS (ts := [4]) Tryz.call123 Tryz.func123 rfl rfl (Nat.le_of_ble_eq_true rfl) (Nat.le_of_ble_eq_true rfl) (fun j h => absurd h (Nat.not_lt_zero j)) ?_
  refine sr [(0, eS 2 eWantedPart a0), (1, eS 2 eOfferedPart a1)] [] ?_
  refine TriE.seq ?_
  refine sj ?_
  refine rn 1 [(1, eS 2 eOfferedPart a1), (6, eS 2 eWantedPart a0)] [] ?_
  obtain ⟨y1, hy1, h⟩ := bind_some h
  refine RegJ.op (Op1.call (y' := vi y1) (obx := []) (oby := []) (ob2 := []) _ _ (cy (I0 7 (.call 173 [(.t 6), (.c (.p (.int .i64 40))), (.c (.fn (.func 174) [] [])), (.c (.fn (.func 175) [] []))]))) rfl (restore_named_WantedPart_ok n a0 40 y1 hy1) [] (by kernel_rfl) (.cons rfl (.cons rfl (.cons rfl (.cons rfl (.cons rfl .nil))))) (by kernel_rfl) (by kernel_rfl) ObsRen.nil (by kernel_rfl) ObsRen.nil (by kernel_rfl)) ?_
  refine jq 1 [(1, eS 2 eOfferedPart a1), (5, vi y1)] [] ?_
  refine sr [(1, eS 2 eOfferedPart a1), (5, vi y1), (9, vb (y1 != (0 : Int)))] [] ?_
  refine TriE.cond (b := (y1 != (0 : Int))) rfl (fun c1 => ?_) (fun c1 => ?_)
  · have h := cond_t h c1
    refine sr [(4, vi y1)] [] ?_
    refine TriE.ret ?_
    have h := Option.some.inj h
    subst h
    exact DoneS.ret (S' := ⟨[(4, vi y1)], []⟩) Sees.refl rfl rfl
  have h := cond_f h c1
  refine TriE.skip ?_
  refine sj ?_
  refine rn 1 [(11, eS 2 eOfferedPart a1)] [] ?_
  obtain ⟨y2, hy2, h⟩ := bind_some h
  refine RegJ.op (Op1.call (y' := vi y2) (obx := []) (oby := []) (ob2 := []) _ _ (cy (I0 12 (.call 176 [(.t 11), (.c (.p (.int .i64 40))), (.c (.fn (.func 177) [] [])), (.c (.fn (.func 178) [] []))]))) rfl (restore_named_OfferedPart_ok n a1 40 y2 hy2) [] (by kernel_rfl) (.cons rfl (.cons rfl (.cons rfl (.cons rfl (.cons rfl .nil))))) (by kernel_rfl) (by kernel_rfl) ObsRen.nil (by kernel_rfl) ObsRen.nil (by kernel_rfl)) ?_
  refine jq 1 [(4, vi y2)] [] ?_
  refine TriE.ret ?_
  have h := Option.some.inj h
  subst h
  exact DoneS.ret (S' := ⟨[(4, vi y2)], []⟩) Sees.refl rfl rfl
theorem restore_fits_ok (n : Nat) (a0 : WantedPart) (a1 : OfferedPart) (r : Bool) (h : restore_fits n a0 a1 = some r) : FnL Tryz.prog 124 [.agg [vt a0.Name, eS 2 eRange a0.Ranges], .agg [vt a1.Name, eS 1 vi a1.Sizes]] [] (vb r) [] := by
  dsimp only [restore_fits] at h
  refine FnL.ofS (ts := [4]) Tryz.call124 Tryz.func124 rfl rfl (Nat.le_of_ble_eq_true rfl) (Nat.le_of_ble_eq_true rfl) (fun j h => absurd h (Nat.not_lt_zero j)) ?_
  refine sr [(2, .ptr 0 0 0), (3, .ptr 1 0 0)] [some (.row 2 [.agg [vt a0.Name, eS 2 eRange a0.Ranges]]), some (.row 2 [.agg [vt a1.Name, eS 1 vi a1.Sizes]])] ?_
  refine TriE.seq ?_
  refine sj ?_
  refine rn 2 [(2, .ptr 0 0 0), (3, .ptr 1 0 0), (8, eS 2 eRange a0.Ranges)] [some (.row 2 [.agg [vt a0.Name, eS 2 eRange a0.Ranges]]), some (.row 2 [.agg [vt a1.Name, eS 1 vi a1.Sizes]])] ?_
  refine jv (vi ((a0.Ranges.length : Nat) : Int)) (cy (I0 9 (.len 0 (.t 8)))) (ok_len_m rfl) rfl ?_
  refine rn 2 [(2, .ptr 0 0 0), (3, .ptr 1 0 0), (9, vi ((a0.Ranges.length : Nat) : Int)), (11, eS 1 vi a1.Sizes)] [some (.row 2 [.agg [vt a0.Name, eS 2 eRange a0.Ranges]]), some (.row 2 [.agg [vt a1.Name, eS 1 vi a1.Sizes]])] ?_
  refine jv (vi ((a1.Sizes.length : Nat) : Int)) (cy (I0 12 (.len 0 (.t 11)))) (ok_len_m rfl) rfl ?_
  refine jv (vb (!decide (a0.Ranges.length = a1.Sizes.length))) (cy (I0 13 (.bin .neq false (.t 9) (.t 12)))) (n_neq (i := a0.Ranges.length) (j := a1.Sizes.length) rfl rfl) rfl ?_
  refine jp [(2, .ptr 0 0 0), (3, .ptr 1 0 0), (13, vb (!decide (a0.Ranges.length = a1.Sizes.length)))] ?_
  refine TriE.cond (b := !decide (a0.Ranges.length = a1.Sizes.length)) rfl (fun c1 => ?_) (fun c1 => ?_)
  · have h := cond_t h c1
    refine sr [(4, vb false)] [some (.row 2 [.agg [vt a0.Name, eS 2 eRange a0.Ranges]]), some (.row 2 [.agg [vt a1.Name, eS 1 vi a1.Sizes]])] ?_
    refine TriE.ret ?_
    have h := Option.some.inj h
    subst h
    exact DoneS.ret (S' := ⟨[(4, vb false)], []⟩) (sc [] (by decide) (by kernel_rfl) ObRen.nil rfl rfl) rfl rfl
  have h := cond_f h c1
  refine TriE.skip ?_
  refine TriE.seqK h (fun (_ : Unit) => St.mk [] []) ?_ ?_
  · rintro ⟨⟩ h
    refine sr [(4, vb true)] [] ?_
    refine TriE.ret ?_
    have h := Option.some.inj h
    subst h
    exact DoneS.ret (S' := ⟨[(4, vb true)], []⟩) Sees.refl rfl rfl
  intro k1 h
  refine sj ?_
  refine rn 2 [(3, .ptr 1 0 0), (15, eS 2 eRange a0.Ranges)] [some (.row 2 [.agg [vt a0.Name, eS 2 eRange a0.Ranges]]), some (.row 2 [.agg [vt a1.Name, eS 1 vi a1.Sizes]])] ?_
  refine jv (vi ((a0.Ranges.length : Nat) : Int)) (cy (I0 16 (.len 0 (.t 15)))) (ok_len_m rfl) rfl ?_
  refine jq 1 [(3, .ptr 1 0 0), (15, eS 2 eRange a0.Ranges), (16, vi ((a0.Ranges.length : Nat) : Int)), (17, vi 0)] [some (.row 2 [.agg [vt a0.Name, eS 2 eRange a0.Ranges]]), some (.row 2 [.agg [vt a1.Name, eS 1 vi a1.Sizes]])] ?_
  refine TriE.block ?_
  refine TriE.sees (S' := ⟨[(3, .ptr 0 0 0), (15, eS 2 eRange a0.Ranges), (16, vi ((a0.Ranges.length : Nat) : Int)), (17, vi 0)], [some (.row 2 [.agg [vt a1.Name, eS 1 vi a1.Sizes]])]⟩) (sc [1] (by decide) (by kernel_rfl) (.cons rfl .nil) rfl rfl) ?_
  refine TriE.loopN h (fun (v2 : Nat) => St.mk [(3, .ptr 0 0 0), (15, eS 2 eRange a0.Ranges), (16, vi ((a0.Ranges.length : Nat) : Int)), (17, vi v2)] [some (.row 2 [.agg [vt a1.Name, eS 1 vi a1.Sizes]])]) rfl ?_
  clear h
  rintro back v2 h
  dsimp only [restore_fits_L1] at h
  refine sj ?_
  refine jv (vb (decide (v2 < a0.Ranges.length))) (cy (I0 18 (.bin .lss false (.t 17) (.t 16)))) (n_lss (i := v2) (j := a0.Ranges.length) rfl rfl) rfl ?_
  refine jp [(3, .ptr 0 0 0), (15, eS 2 eRange a0.Ranges), (16, vi ((a0.Ranges.length : Nat) : Int)), (17, vi v2), (18, vb (decide (v2 < a0.Ranges.length)))] ?_
  refine TriE.seq ?_
  refine TriE.cond (b := decide (v2 < a0.Ranges.length)) rfl (fun c2 => ?_) (fun c2 => ?_)
  · have h := cond_t h c2
    refine TriE.skip ?_
    refine TriE.seq ?_
    refine TriE.block ?_
    refine sj ?_
    refine rn 1 [(3, .ptr 0 0 0), (15, eS 2 eRange a0.Ranges), (16, vi ((a0.Ranges.length : Nat) : Int)), (17, vi v2), (19, vi v2)] [some (.row 2 [.agg [vt a1.Name, eS 1 vi a1.Sizes]])] ?_
    refine jv (.fptr 2 (List.map eRange a0.Ranges) v2 0) (cy (I0 20 (.iaddr 2 (.t 15) (.t 17)))) (ok_iaddr_m (j := v2) rfl rfl rfl c2) rfl ?_
    refine jv (.agg [vi ((ix a0.Ranges v2).Lo), vi ((ix a0.Ranges v2).Hi)]) (cy (I0 21 (.load true 2 (.t 20)))) (ok_load_fm (v := .agg [vi ((ix a0.Ranges v2).Lo), vi ((ix a0.Ranges v2).Hi)]) rfl c2 rfl) rfl ?_
    refine jq 3 [(3, .ptr 0 0 0), (15, eS 2 eRange a0.Ranges), (16, vi ((a0.Ranges.length : Nat) : Int)), (17, vi v2), (6, .ptr 1 0 0), (5, vi v2)] [some (.row 2 [.agg [vt a1.Name, eS 1 vi a1.Sizes]]), some (.row 2 [.agg [vi ((ix a0.Ranges v2).Lo), vi ((ix a0.Ranges v2).Hi)]])] ?_
    refine TriE.seq ?_
    refine TriE.sees (Sees.less (fr' := [(3, .ptr 0 0 0), (15, eS 2 eRange a0.Ranges), (16, vi ((a0.Ranges.length : Nat) : Int)), (17, vi v2), (6, .ptr 1 0 0), (5, vi v2)]) (.cons rfl (.cons rfl (.cons rfl (.cons rfl (.cons rfl (.cons rfl .nil))))))) ?_
    refine TriE.draw (by kernel_rfl) ?_
    refine RegD.run 3 [(24, vi v2), (23, eS 1 vi a1.Sizes), (22, .ptr 0 0 1), (3, .ptr 0 0 0), (15, eS 2 eRange a0.Ranges), (16, vi ((a0.Ranges.length : Nat) : Int)), (17, vi v2), (6, .ptr 1 0 0), (5, vi v2)] [some (.row 2 [.agg [vt a1.Name, eS 1 vi a1.Sizes]]), some (.row 2 [.agg [vi ((ix a0.Ranges v2).Lo), vi ((ix a0.Ranges v2).Hi)]]), none, none, none] (by kernel_rfl) ?_
    obtain ⟨c3, h⟩ := chk_some h
    refine dv (.fptr 1 (List.map vi a1.Sizes) v2 0) (cy (I0 25 (.iaddr 1 (.t 23) (.t 24)))) (ok_iaddr_m (j := v2) rfl rfl rfl c3) rfl ?_
    refine dv (vi (ix a1.Sizes v2)) (cy (I0 26 (.load false 1 (.t 25)))) (ok_load_fm (v := vi (ix a1.Sizes v2)) rfl c3 rfl) rfl ?_
    refine RegD.run 4 [(30, vi ((ix a0.Ranges v2).Hi)), (29, .ptr 1 0 1), (28, vi ((ix a0.Ranges v2).Lo)), (27, .ptr 1 0 0), (26, vi (ix a1.Sizes v2)), (25, .fptr 1 (List.map vi a1.Sizes) v2 0), (24, vi v2), (23, eS 1 vi a1.Sizes), (22, .ptr 0 0 1), (3, .ptr 0 0 0), (15, eS 2 eRange a0.Ranges), (16, vi ((a0.Ranges.length : Nat) : Int)), (17, vi v2), (6, .ptr 1 0 0), (5, vi v2)] [some (.row 2 [.agg [vt a1.Name, eS 1 vi a1.Sizes]]), some (.row 2 [.agg [vi ((ix a0.Ranges v2).Lo), vi ((ix a0.Ranges v2).Hi)]]), none, none, none, none, none, none, none, none, none] (by kernel_rfl) ?_
    obtain ⟨y3, hy3, h⟩ := bind_some h
    refine RegD.op (OpD.call (y' := vb ((decide (((ix a0.Ranges v2).Lo) ≤ (ix a1.Sizes v2))) && (decide ((ix a1.Sizes v2) ≤ ((ix a0.Ranges v2).Hi))))) (obx := []) (oby := []) (ob2 := [some (.row 2 [.agg [vt a1.Name, eS 1 vi a1.Sizes]]), some (.row 2 [.agg [vi ((ix a0.Ranges v2).Lo), vi ((ix a0.Ranges v2).Hi)]]), none, none, none, none, none, none, none, none, none, none]) (tch := []) 0 _ _ (cy (I0 31 (.call 91 [(.t 26), (.t 28), (.t 30)]))) (restore_within_ok n (ix a1.Sizes v2) ((ix a0.Ranges v2).Lo) ((ix a0.Ranges v2).Hi) y3 hy3) [] (by kernel_rfl) (.cons rfl (.cons rfl (.cons rfl (.cons rfl .nil)))) (by kernel_rfl) (by kernel_rfl) ObsRen.nil (by kernel_rfl) ObsRen.nil (by kernel_rfl) rfl (.inr ⟨rfl, rfl⟩)) ?_
    refine RegD.run 1 [(32, vb (!((decide (((ix a0.Ranges v2).Lo) ≤ (ix a1.Sizes v2))) && (decide ((ix a1.Sizes v2) ≤ ((ix a0.Ranges v2).Hi)))))), (31, vb ((decide (((ix a0.Ranges v2).Lo) ≤ (ix a1.Sizes v2))) && (decide ((ix a1.Sizes v2) ≤ ((ix a0.Ranges v2).Hi))))), (30, vi ((ix a0.Ranges v2).Hi)), (29, .ptr 1 0 1), (28, vi ((ix a0.Ranges v2).Lo)), (27, .ptr 1 0 0), (26, vi (ix a1.Sizes v2)), (25, .fptr 1 (List.map vi a1.Sizes) v2 0), (24, vi v2), (23, eS 1 vi a1.Sizes), (22, .ptr 0 0 1), (3, .ptr 0 0 0), (15, eS 2 eRange a0.Ranges), (16, vi ((a0.Ranges.length : Nat) : Int)), (17, vi v2), (6, .ptr 1 0 0), (5, vi v2)] [some (.row 2 [.agg [vt a1.Name, eS 1 vi a1.Sizes]]), some (.row 2 [.agg [vi ((ix a0.Ranges v2).Lo), vi ((ix a0.Ranges v2).Hi)]]), none, none, none, none, none, none, none, none, none, none, none] (by kernel_rfl) ?_
    refine RegD.done rfl (by kernel_rfl) (S' := ⟨[(3, .ptr 0 0 0), (15, eS 2 eRange a0.Ranges), (16, vi ((a0.Ranges.length : Nat) : Int)), (17, vi v2), (32, vb (!((decide (((ix a0.Ranges v2).Lo) ≤ (ix a1.Sizes v2))) && (decide ((ix a1.Sizes v2) ≤ ((ix a0.Ranges v2).Hi))))))], [some (.row 2 [.agg [vt a1.Name, eS 1 vi a1.Sizes]])]⟩) (sc [0] (by decide) (by kernel_rfl) (.cons rfl .nil) rfl rfl) ?_
    refine TriE.cond (b := !((decide (((ix a0.Ranges v2).Lo) ≤ (ix a1.Sizes v2))) && (decide ((ix a1.Sizes v2) ≤ ((ix a0.Ranges v2).Hi))))) rfl (fun c4 => ?_) (fun c4 => ?_)
    · have h := cond_t h c4
      refine sr [(4, vb false)] [some (.row 2 [.agg [vt a1.Name, eS 1 vi a1.Sizes]])] ?_
      refine TriE.ret ?_
      have h := Option.some.inj h
      subst h
      exact DoneS.ret (S' := ⟨[(4, vb false)], []⟩) (sc [] (by decide) (by kernel_rfl) ObRen.nil rfl rfl) rfl rfl
    have h := cond_f h c4
    refine TriE.skip ?_
    refine TriE.regJ ?_
    obtain ⟨c5, h⟩ := chk_some h
    refine jv (vi ((v2 + 1 : Nat) : Int)) (cy (I0 33 (.bin .add false (.t 17) (.c (.p (.int .i64 1)))))) (r_addn (i := v2) (j := 1) rfl rfl c5) rfl ?_
    refine jq 1 [(3, .ptr 0 0 0), (15, eS 2 eRange a0.Ranges), (16, vi ((a0.Ranges.length : Nat) : Int)), (17, vi ((v2 + 1 : Nat) : Int))] [some (.row 2 [.agg [vt a1.Name, eS 1 vi a1.Sizes]])] ?_
    exact Vs.intro sy ⟨(v2 + 1), rfl, h⟩
  have h := cond_f h c2
  refine TriE.exit ?_
  exact Vs.intro (sc [] (by decide) (by kernel_rfl) ObRen.nil rfl rfl) ⟨(), rfl, h⟩
theorem slices_Index_int_ok (n : Nat) (a0 : List Int) (a1 : Int) (r : Int) (h : slices_Index_int n a0 a1 = some r) : FnL Tryz.prog 179 [eS 1 vi a0, vi a1] [] (vi r) [] := by
  dsimp only [slices_Index_int] at h
  refine FnL.ofS (ts := [4]) Tryz.call179 Tryz.func179 rfl rfl (Nat.le_of_ble_eq_true rfl) (Nat.le_of_ble_eq_true rfl) (fun j h => absurd h (Nat.not_lt_zero j)) ?_
  refine sr [(0, eS 1 vi a0), (1, vi a1)] [] ?_
  refine TriE.seqK h (fun (_ : Unit) => St.mk [] []) ?_ ?_
  · rintro ⟨⟩ h
    refine sr [(4, vi (-1))] [] ?_
    refine TriE.ret ?_
    have h := Option.some.inj h
    subst h
    exact DoneS.ret (S' := ⟨[(4, vi (-1))], []⟩) Sees.refl rfl rfl
  intro k1 h
  refine sj ?_
  refine rn 1 [(0, eS 1 vi a0), (1, vi a1), (6, eS 1 vi a0)] [] ?_
  refine jv (vi (a0.length : Int)) (cy (I0 7 (.len 0 (.t 6)))) (ok_len_m rfl) rfl ?_
  refine jq 1 [(0, eS 1 vi a0), (1, vi a1), (7, vi (a0.length : Int)), (8, vi 0)] [] ?_
  refine TriE.block ?_
  refine TriE.sees (S' := ⟨[(0, eS 1 vi a0), (1, vi a1), (7, vi (a0.length : Int)), (8, vi 0)], []⟩) sy ?_
  refine TriE.loopN h (fun (v1 : Nat) => St.mk [(0, eS 1 vi a0), (1, vi a1), (7, vi (a0.length : Int)), (8, vi v1)] []) rfl ?_
  clear h
  rintro back v1 h
  dsimp only [slices_Index_int_L1] at h
  refine sj ?_
  refine jv (vb (decide (v1 < a0.length))) (cy (I0 9 (.bin .lss false (.t 8) (.t 7)))) (n_lss (i := v1) (j := a0.length) rfl rfl) rfl ?_
  refine jp [(0, eS 1 vi a0), (1, vi a1), (7, vi (a0.length : Int)), (8, vi v1), (9, vb (decide (v1 < a0.length)))] ?_
  refine TriE.seq ?_
  refine TriE.cond (b := decide (v1 < a0.length)) rfl (fun c1 => ?_) (fun c1 => ?_)
  · have h := cond_t h c1
    refine TriE.skip ?_
    refine TriE.seq ?_
    refine TriE.block ?_
    refine sr [(0, eS 1 vi a0), (1, vi a1), (7, vi (a0.length : Int)), (8, vi v1), (5, vi v1)] [] ?_
    refine sj ?_
    refine rn 3 [(0, eS 1 vi a0), (1, vi a1), (7, vi (a0.length : Int)), (8, vi v1), (5, vi v1), (11, vi a1), (12, eS 1 vi a0), (13, vi v1)] [] ?_
    refine jv (.fptr 1 (List.map vi a0) v1 0) (cy (I0 14 (.iaddr 1 (.t 12) (.t 13)))) (ok_iaddr_m (j := v1) rfl rfl rfl c1) rfl ?_
    refine jv (vi (ix a0 v1)) (cy (I0 15 (.load false 1 (.t 14)))) (ok_load_fm (v := vi (ix a0 v1)) rfl c1 rfl) rfl ?_
    refine jq 1 [(0, eS 1 vi a0), (1, vi a1), (7, vi (a0.length : Int)), (8, vi v1), (5, vi v1), (16, vb (a1 == (ix a0 v1)))] [] ?_
    refine TriE.cond (b := (a1 == (ix a0 v1))) rfl (fun c2 => ?_) (fun c2 => ?_)
    · have h := cond_t h c2
      refine sr [(4, vi v1)] [] ?_
      refine TriE.ret ?_
      have h := Option.some.inj h
      subst h
      exact DoneS.ret (S' := ⟨[(4, vi v1)], []⟩) Sees.refl rfl rfl
    have h := cond_f h c2
    refine TriE.skip ?_
    refine TriE.regJ ?_
    obtain ⟨c3, h⟩ := chk_some h
    refine jv (vi ((v1 + 1 : Nat) : Int)) (cy (I0 18 (.bin .add false (.t 8) (.c (.p (.int .i64 1)))))) (r_addn (i := v1) (j := 1) rfl rfl c3) rfl ?_
    refine jq 1 [(0, eS 1 vi a0), (1, vi a1), (7, vi (a0.length : Int)), (8, vi ((v1 + 1 : Nat) : Int))] [] ?_
    exact Vs.intro sy ⟨(v1 + 1), rfl, h⟩
  have h := cond_f h c1
  refine TriE.exit ?_
  exact Vs.intro sy ⟨(), rfl, h⟩
theorem slices_Contains_int_ok (n : Nat) (a0 : List Int) (a1 : Int) (r : Bool) (h : slices_Contains_int n a0 a1 = some r) : FnL Tryz.prog 125 [eS 1 vi a0, vi a1] [] (vb r) [] := by
  dsimp only [slices_Contains_int] at h
  refine FnL.ofS (ts := [4]) Tryz.call125 Tryz.func125 rfl rfl (Nat.le_of_ble_eq_true rfl) (Nat.le_of_ble_eq_true rfl) (fun j h => absurd h (Nat.not_lt_zero j)) ?_
  refine sr [(0, eS 1 vi a0), (1, vi a1)] [] ?_
  refine sj ?_
  refine rn 2 [(5, eS 1 vi a0), (6, vi a1)] [] ?_
  obtain ⟨y1, hy1, h⟩ := bind_some h
  refine RegJ.op (Op1.call (y' := vi y1) (obx := []) (oby := []) (ob2 := []) _ _ (cy (I0 7 (.call 179 [(.t 5), (.t 6)]))) rfl (slices_Index_int_ok n a0 a1 y1 hy1) [] (by kernel_rfl) (.cons rfl (.cons rfl (.cons rfl .nil))) (by kernel_rfl) (by kernel_rfl) ObsRen.nil (by kernel_rfl) ObsRen.nil (by kernel_rfl)) ?_
  refine jq 2 [(4, vb (decide ((0 : Int) ≤ y1)))] [] ?_
  refine TriE.ret ?_
  have h := Option.some.inj h
  subst h
  exact DoneS.ret (S' := ⟨[(4, vb (decide ((0 : Int) ≤ y1)))], []⟩) Sees.refl rfl rfl
theorem restore_CheckMatch_ok (n : Nat) (a0 : List WantedPart) (a1 : List OfferedPart) (a2 : List Int) (r : Int × Int) (h : restore_CheckMatch n a0 a1 a2 = some r) : FnL Tryz.prog 58 [eS 2 eWantedPart a0, eS 2 eOfferedPart a1, eS 1 vi a2] [] (.tup [vi r.2, vi r.1]) [] := by
  dsimp only [restore_CheckMatch] at h
  refine FnL.ofS (ts := [6, 7]) Tryz.call58 Tryz.func58 rfl rfl (Nat.le_of_ble_eq_true rfl) (Nat.le_of_ble_eq_true rfl) (fun j h => absurd h (Nat.not_lt_zero j)) ?_
  refine sr [(0, eS 2 eWantedPart a0), (1, eS 2 eOfferedPart a1), (2, eS 1 vi a2)] [] ?_
  refine TriE.seq ?_
  refine sj ?_
  refine rn 2 [(0, eS 2 eWantedPart a0), (1, eS 2 eOfferedPart a1), (2, eS 1 vi a2), (12, eS 2 eWantedPart a0), (13, eS 2 eOfferedPart a1)] [] ?_
  obtain ⟨y1, hy1, h⟩ := bind_some h
  refine RegJ.op (Op1.call (y' := vi y1) (obx := []) (oby := []) (ob2 := []) _ _ (cy (I0 14 (.call 123 [(.t 12), (.t 13)]))) rfl (restore_checkBoth_ok n a0 a1 y1 hy1) [] (by kernel_rfl) (.cons rfl (.cons rfl (.cons rfl .nil))) (by kernel_rfl) (by kernel_rfl) ObsRen.nil (by kernel_rfl) ObsRen.nil (by kernel_rfl)) ?_
  refine jq 1 [(0, eS 2 eWantedPart a0), (1, eS 2 eOfferedPart a1), (2, eS 1 vi a2), (8, vi y1)] [] ?_
  refine sr [(0, eS 2 eWantedPart a0), (1, eS 2 eOfferedPart a1), (2, eS 1 vi a2), (8, vi y1), (16, vb (y1 != (0 : Int)))] [] ?_
  refine TriE.cond (b := (y1 != (0 : Int))) rfl (fun c1 => ?_) (fun c1 => ?_)
  · have h := cond_t h c1
    refine sr [(6, vi 0), (7, vi y1)] [] ?_
    refine TriE.ret ?_
    have h := Option.some.inj h
    subst h
    exact DoneS.ret (S' := ⟨[(6, vi 0), (7, vi y1)], []⟩) Sees.refl rfl rfl
  have h := cond_f h c1
  refine TriE.skip ?_
  refine TriE.seq ?_
  refine sj ?_
  refine rn 1 [(0, eS 2 eWantedPart a0), (1, eS 2 eOfferedPart a1), (2, eS 1 vi a2), (18, eS 1 vi a2)] [] ?_
  refine jv (vi (a2.length : Int)) (cy (I0 19 (.len 0 (.t 18)))) (ok_len_m rfl) rfl ?_
  refine rn 1 [(0, eS 2 eWantedPart a0), (1, eS 2 eOfferedPart a1), (2, eS 1 vi a2), (19, vi (a2.length : Int)), (20, eS 2 eWantedPart a0)] [] ?_
  refine jv (vi (a0.length : Int)) (cy (I0 21 (.len 0 (.t 20)))) (ok_len_m rfl) rfl ?_
  refine jv (vb (!decide (a2.length = a0.length))) (cy (I0 22 (.bin .neq false (.t 19) (.t 21)))) (n_neq (i := a2.length) (j := a0.length) rfl rfl) rfl ?_
  refine jp [(0, eS 2 eWantedPart a0), (1, eS 2 eOfferedPart a1), (2, eS 1 vi a2), (22, vb (!decide (a2.length = a0.length)))] ?_
  refine TriE.cond (b := !decide (a2.length = a0.length)) rfl (fun c2 => ?_) (fun c2 => ?_)
  · have h := cond_t h c2
    refine sr [(6, vi 0), (7, vi 10)] [] ?_
    refine TriE.ret ?_
    have h := Option.some.inj h
    subst h
    exact DoneS.ret (S' := ⟨[(6, vi 0), (7, vi 10)], []⟩) Sees.refl rfl rfl
  have h := cond_f h c2
  refine TriE.skip ?_
  refine sr [(0, eS 2 eWantedPart a0), (1, eS 2 eOfferedPart a1), (2, eS 1 vi a2), (9, vi 0)] [] ?_
  refine TriE.seqK h (fun (v12 : Nat) => St.mk [(9, vi v12)] []) ?_ ?_
  · rintro v12 h
    refine sr [(6, vi v12), (7, vi 0)] [] ?_
    refine TriE.ret ?_
    have h := Option.some.inj h
    subst h
    exact DoneS.ret (S' := ⟨[(6, vi v12), (7, vi 0)], []⟩) Sees.refl rfl rfl
  intro k2 h
  refine sj ?_
  refine rn 1 [(0, eS 2 eWantedPart a0), (1, eS 2 eOfferedPart a1), (2, eS 1 vi a2), (9, vi 0), (23, eS 1 vi a2)] [] ?_
  refine jv (vi (a2.length : Int)) (cy (I0 24 (.len 0 (.t 23)))) (ok_len_m rfl) rfl ?_
  refine jq 1 [(0, eS 2 eWantedPart a0), (1, eS 2 eOfferedPart a1), (2, eS 1 vi a2), (9, vi 0), (23, eS 1 vi a2), (24, vi (a2.length : Int)), (25, vi 0)] [] ?_
  refine TriE.block ?_
  refine TriE.sees (S' := ⟨[(0, eS 2 eWantedPart a0), (1, eS 2 eOfferedPart a1), (2, eS 1 vi a2), (9, vi 0), (23, eS 1 vi a2), (24, vi (a2.length : Int)), (25, vi 0)], []⟩) sy ?_
  refine TriE.loopN h (fun (t : Nat × Nat) => match t with | (v6, v7) => St.mk [(0, eS 2 eWantedPart a0), (1, eS 2 eOfferedPart a1), (2, eS 1 vi a2), (9, vi v6), (23, eS 1 vi a2), (24, vi (a2.length : Int)), (25, vi v7)] []) rfl ?_
  clear h
  rintro back ⟨v6, v7⟩ h
  dsimp only [restore_CheckMatch_L1] at h
  refine sj ?_
  refine jv (vb (decide (v7 < a2.length))) (cy (I0 26 (.bin .lss false (.t 25) (.t 24)))) (n_lss (i := v7) (j := a2.length) rfl rfl) rfl ?_
  refine jp [(0, eS 2 eWantedPart a0), (1, eS 2 eOfferedPart a1), (2, eS 1 vi a2), (9, vi v6), (23, eS 1 vi a2), (24, vi (a2.length : Int)), (25, vi v7), (26, vb (decide (v7 < a2.length)))] ?_
  refine TriE.seq ?_
  refine TriE.cond (b := decide (v7 < a2.length)) rfl (fun c3 => ?_) (fun c3 => ?_)
  · have h := cond_t h c3
    refine TriE.skip ?_
    refine TriE.seqK h (fun (v11 : Nat) => St.mk [(0, eS 2 eWantedPart a0), (1, eS 2 eOfferedPart a1), (2, eS 1 vi a2), (9, vi v11), (23, eS 1 vi a2), (24, vi (a2.length : Int)), (25, vi v7)] []) ?_ ?_
    · rintro v11 h
      refine TriE.regJ ?_
      obtain ⟨c14, h⟩ := chk_some h
      refine jv (vi ((v7 + 1 : Nat) : Int)) (cy (I0 59 (.bin .add false (.t 25) (.c (.p (.int .i64 1)))))) (r_addn (i := v7) (j := 1) rfl rfl c14) rfl ?_
      refine jq 1 [(0, eS 2 eWantedPart a0), (1, eS 2 eOfferedPart a1), (2, eS 1 vi a2), (9, vi v11), (23, eS 1 vi a2), (24, vi (a2.length : Int)), (25, vi ((v7 + 1 : Nat) : Int))] [] ?_
      exact Vs.intro sy ⟨(v11, v7 + 1), rfl, h⟩
    intro k1 h
    refine TriE.block ?_
    refine sj ?_
    refine rn 1 [(0, eS 2 eWantedPart a0), (1, eS 2 eOfferedPart a1), (2, eS 1 vi a2), (9, vi v6), (23, eS 1 vi a2), (24, vi (a2.length : Int)), (25, vi v7), (27, vi v7)] [] ?_
    refine jv (.fptr 1 (List.map vi a2) v7 0) (cy (I0 28 (.iaddr 1 (.t 23) (.t 25)))) (ok_iaddr_m (j := v7) rfl rfl rfl c3) rfl ?_
    refine jv (vi (ix a2 v7)) (cy (I0 29 (.load false 1 (.t 28)))) (ok_load_fm (v := vi (ix a2 v7)) rfl c3 rfl) rfl ?_
    refine jq 2 [(0, eS 2 eWantedPart a0), (1, eS 2 eOfferedPart a1), (2, eS 1 vi a2), (9, vi v6), (23, eS 1 vi a2), (24, vi (a2.length : Int)), (25, vi v7), (10, vi v7), (11, vi (ix a2 v7))] [] ?_
    refine TriE.seq ?_
    refine TriE.block ?_
    refine sr [(0, eS 2 eWantedPart a0), (1, eS 2 eOfferedPart a1), (2, eS 1 vi a2), (9, vi v6), (23, eS 1 vi a2), (24, vi (a2.length : Int)), (25, vi v7), (10, vi v7), (11, vi (ix a2 v7)), (30, vb ((ix a2 v7) == ((-1) : Int)))] [] ?_
    refine TriE.cond (b := ((ix a2 v7) == ((-1) : Int))) rfl (fun c4 => ?_) (fun c4 => ?_)
    · have h := cond_t h c4
      refine TriE.exit ?_
      exact Vs.intro sy ⟨v6, rfl, h⟩
    have h := cond_f h c4
    refine sj ?_
    refine rn 2 [(0, eS 2 eWantedPart a0), (1, eS 2 eOfferedPart a1), (2, eS 1 vi a2), (9, vi v6), (23, eS 1 vi a2), (24, vi (a2.length : Int)), (25, vi v7), (10, vi v7), (11, vi (ix a2 v7)), (34, vi (ix a2 v7)), (35, eS 2 eOfferedPart a1)] [] ?_
    refine jv (vi (a1.length : Int)) (cy (I0 36 (.len 0 (.t 35)))) (ok_len_m rfl) rfl ?_
    obtain ⟨c5, h⟩ := chk_some h
    refine jv (vi ((a1.length : Int) - 1)) (cy (I0 37 (.bin .sub false (.t 36) (.c (.p (.int .i64 1)))))) (r_sub rfl rfl c5) rfl ?_
    obtain ⟨y8, hy8, h⟩ := bind_some h
    refine RegJ.op (Op1.call (y' := vb ((decide (0 ≤ (ix a2 v7))) && (decide ((ix a2 v7) ≤ ((a1.length : Int) - 1))))) (obx := []) (oby := []) (ob2 := []) _ _ (cy (I0 38 (.call 91 [(.t 34), (.c (.p (.int .i64 0))), (.t 37)]))) rfl (restore_within_ok n (ix a2 v7) 0 ((a1.length : Int) - 1) y8 hy8) [] (by kernel_rfl) (.cons rfl (.cons rfl (.cons rfl (.cons rfl .nil)))) (by kernel_rfl) (by kernel_rfl) ObsRen.nil (by kernel_rfl) ObsRen.nil (by kernel_rfl)) ?_
    refine jq 2 [(0, eS 2 eWantedPart a0), (1, eS 2 eOfferedPart a1), (2, eS 1 vi a2), (9, vi v6), (23, eS 1 vi a2), (24, vi (a2.length : Int)), (25, vi v7), (10, vi v7), (11, vi (ix a2 v7)), (33, vb (!((decide (0 ≤ (ix a2 v7))) && (decide ((ix a2 v7) ≤ ((a1.length : Int) - 1))))))] [] ?_
    refine TriE.cond (b := !((decide (0 ≤ (ix a2 v7))) && (decide ((ix a2 v7) ≤ ((a1.length : Int) - 1))))) rfl (fun c6 => ?_) (fun c6 => ?_)
    · have h := cond_t h c6
      refine sr [(6, vi 0), (7, vi 6)] [] ?_
      refine TriE.ret ?_
      have h := Option.some.inj h
      subst h
      exact DoneS.ret (S' := ⟨[(6, vi 0), (7, vi 6)], []⟩) Sees.refl rfl rfl
    have h := cond_f h c6
    refine TriE.seq ?_
    refine TriE.sees (Sees.less (fr' := [(0, eS 2 eWantedPart a0), (1, eS 2 eOfferedPart a1), (2, eS 1 vi a2), (9, vi v6), (23, eS 1 vi a2), (24, vi (a2.length : Int)), (25, vi v7), (10, vi v7), (11, vi (ix a2 v7))]) (.cons rfl (.cons rfl (.cons rfl (.cons rfl (.cons rfl (.cons rfl (.cons rfl (.cons rfl (.cons rfl .nil)))))))))) ?_
    refine TriE.draw (by kernel_rfl) ?_
    refine RegD.run 2 [(42, vi v7), (41, eS 2 eWantedPart a0), (0, eS 2 eWantedPart a0), (1, eS 2 eOfferedPart a1), (2, eS 1 vi a2), (9, vi v6), (23, eS 1 vi a2), (24, vi (a2.length : Int)), (25, vi v7), (10, vi v7), (11, vi (ix a2 v7))] [none, none] (by kernel_rfl) ?_
    obtain ⟨c7, h⟩ := chk_some h
    refine dv (.fptr 2 (List.map eWantedPart a0) v7 0) (cy (I0 43 (.iaddr 2 (.t 41) (.t 42)))) (ok_iaddr_m (j := v7) rfl rfl rfl c7) rfl ?_
    refine dv (.agg [vt ((ix a0 v7).Name), eS 2 eRange ((ix a0 v7).Ranges)]) (cy (I0 44 (.load true 2 (.t 43)))) (ok_load_fm (v := .agg [vt ((ix a0 v7).Name), eS 2 eRange ((ix a0 v7).Ranges)]) rfl c7 rfl) rfl ?_
    refine RegD.run 2 [(46, vi (ix a2 v7)), (45, eS 2 eOfferedPart a1), (44, .agg [vt ((ix a0 v7).Name), eS 2 eRange ((ix a0 v7).Ranges)]), (43, .fptr 2 (List.map eWantedPart a0) v7 0), (42, vi v7), (41, eS 2 eWantedPart a0), (0, eS 2 eWantedPart a0), (1, eS 2 eOfferedPart a1), (2, eS 1 vi a2), (9, vi v6), (23, eS 1 vi a2), (24, vi (a2.length : Int)), (25, vi v7), (10, vi v7), (11, vi (ix a2 v7))] [none, none, none, none, none, none] (by kernel_rfl) ?_
    obtain ⟨c8, h⟩ := chk_some h
    refine dv (.fptr 2 (List.map eOfferedPart a1) ((ix a2 v7).toNat) 0) (cy (I0 47 (.iaddr 2 (.t 45) (.t 46)))) (ok_iaddr_m (j := (ix a2 v7).toNat) rfl rfl (inB_to c8) (inB_lt c8)) rfl ?_
    obtain ⟨c9, h⟩ := chk_some h
    refine dv (.agg [vt ((ix a1 ((ix a2 v7).toNat)).Name), eS 1 vi ((ix a1 ((ix a2 v7).toNat)).Sizes)]) (cy (I0 48 (.load true 2 (.t 47)))) (ok_load_fm (v := .agg [vt ((ix a1 ((ix a2 v7).toNat)).Name), eS 1 vi ((ix a1 ((ix a2 v7).toNat)).Sizes)]) rfl c9 rfl) rfl ?_
    obtain ⟨y9, hy9, h⟩ := bind_some h
    refine RegD.op (OpD.call (y' := vb y9) (obx := []) (oby := []) (ob2 := [none, none, none, none, none, none, none, none, none]) (tch := []) 0 _ _ (cy (I0 49 (.call 124 [(.t 44), (.t 48)]))) (restore_fits_ok n (ix a0 v7) (ix a1 ((ix a2 v7).toNat)) y9 hy9) [] (by kernel_rfl) (.cons rfl (.cons rfl (.cons rfl .nil))) (by kernel_rfl) (by kernel_rfl) ObsRen.nil (by kernel_rfl) ObsRen.nil (by kernel_rfl) rfl (.inr ⟨rfl, rfl⟩)) ?_
    refine RegD.run 2 [(40, vb (!y9)), (50, vb (!y9)), (49, vb y9), (48, .agg [vt ((ix a1 ((ix a2 v7).toNat)).Name), eS 1 vi ((ix a1 ((ix a2 v7).toNat)).Sizes)]), (47, .fptr 2 (List.map eOfferedPart a1) ((ix a2 v7).toNat) 0), (46, vi (ix a2 v7)), (45, eS 2 eOfferedPart a1), (44, .agg [vt ((ix a0 v7).Name), eS 2 eRange ((ix a0 v7).Ranges)]), (43, .fptr 2 (List.map eWantedPart a0) v7 0), (42, vi v7), (41, eS 2 eWantedPart a0), (0, eS 2 eWantedPart a0), (1, eS 2 eOfferedPart a1), (2, eS 1 vi a2), (9, vi v6), (23, eS 1 vi a2), (24, vi (a2.length : Int)), (25, vi v7), (10, vi v7), (11, vi (ix a2 v7))] [none, none, none, none, none, none, none, none, none, none, none] (by kernel_rfl) ?_
    refine RegD.done rfl (by kernel_rfl) (S' := ⟨[(0, eS 2 eWantedPart a0), (1, eS 2 eOfferedPart a1), (2, eS 1 vi a2), (9, vi v6), (23, eS 1 vi a2), (24, vi (a2.length : Int)), (25, vi v7), (10, vi v7), (11, vi (ix a2 v7)), (40, vb (!y9))], []⟩) (sc [] (by decide) (by kernel_rfl) ObRen.nil rfl rfl) ?_
    refine TriE.cond (b := !y9) rfl (fun c10 => ?_) (fun c10 => ?_)
    · have h := cond_t h c10
      refine sr [(6, vi 0), (7, vi 15)] [] ?_
      refine TriE.ret ?_
      have h := Option.some.inj h
      subst h
      exact DoneS.ret (S' := ⟨[(6, vi 0), (7, vi 15)], []⟩) Sees.refl rfl rfl
    have h := cond_f h c10
    refine sj ?_
    refine rn 2 [(0, eS 2 eWantedPart a0), (1, eS 2 eOfferedPart a1), (2, eS 1 vi a2), (9, vi v6), (23, eS 1 vi a2), (24, vi (a2.length : Int)), (25, vi v7), (11, vi (ix a2 v7)), (52, eS 1 vi a2), (53, vi v7)] [] ?_
    obtain ⟨c11, h⟩ := chk_some h
    refine jv (eS 1 vi (List.take v7 a2)) (cy (I0 54 (.slc 1 (.t 52) none (some (.t 53)) none))) (ok_slc_hi (j := v7) rfl rfl rfl c11) rfl ?_
    refine rn 1 [(0, eS 2 eWantedPart a0), (1, eS 2 eOfferedPart a1), (2, eS 1 vi a2), (9, vi v6), (23, eS 1 vi a2), (24, vi (a2.length : Int)), (25, vi v7), (54, eS 1 vi (List.take v7 a2)), (55, vi (ix a2 v7))] [] ?_
    obtain ⟨y10, hy10, h⟩ := bind_some h
    refine RegJ.op (Op1.call (y' := vb y10) (obx := []) (oby := []) (ob2 := []) _ _ (cy (I0 56 (.call 125 [(.t 54), (.t 55)]))) rfl (slices_Contains_int_ok n (List.take v7 a2) (ix a2 v7) y10 hy10) [] (by kernel_rfl) (.cons rfl (.cons rfl (.cons rfl .nil))) (by kernel_rfl) (by kernel_rfl) ObsRen.nil (by kernel_rfl) ObsRen.nil (by kernel_rfl)) ?_
    refine jq 1 [(0, eS 2 eWantedPart a0), (1, eS 2 eOfferedPart a1), (2, eS 1 vi a2), (9, vi v6), (23, eS 1 vi a2), (24, vi (a2.length : Int)), (25, vi v7), (51, vb y10)] [] ?_
    refine TriE.cond (b := y10) rfl (fun c12 => ?_) (fun c12 => ?_)
    · have h := cond_t h c12
      refine sr [(6, vi 0), (7, vi 17)] [] ?_
      refine TriE.ret ?_
      have h := Option.some.inj h
      subst h
      exact DoneS.ret (S' := ⟨[(6, vi 0), (7, vi 17)], []⟩) Sees.refl rfl rfl
    have h := cond_f h c12
    refine TriE.skip ?_
    refine TriE.regJ ?_
    refine rn 1 [(0, eS 2 eWantedPart a0), (1, eS 2 eOfferedPart a1), (2, eS 1 vi a2), (23, eS 1 vi a2), (24, vi (a2.length : Int)), (25, vi v7), (57, vi v6)] [] ?_
    obtain ⟨c13, h⟩ := chk_some h
    refine jv (vi ((v6 + 1 : Nat) : Int)) (cy (I0 58 (.bin .add false (.t 57) (.c (.p (.int .i64 1)))))) (r_addn (i := v6) (j := 1) rfl rfl c13) rfl ?_
    refine jq 1 [(0, eS 2 eWantedPart a0), (1, eS 2 eOfferedPart a1), (2, eS 1 vi a2), (23, eS 1 vi a2), (24, vi (a2.length : Int)), (25, vi v7), (9, vi ((v6 + 1 : Nat) : Int))] [] ?_
    exact Vs.intro sy ⟨(v6 + 1), rfl, h⟩
  have h := cond_f h c3
  refine TriE.exit ?_
  exact Vs.intro sy ⟨v6, rfl, h⟩
theorem restore_CheckCover_f1_ok (n : Nat) (a0 : Int) (a1 : Int) (r : Unit) (h : restore_CheckCover_f1 n a0 a1 = some r) : FnL Tryz.prog 127 [vi a0, .ptr 0 0 0] [some (.row 1 [vi a1])] (vb (!((decide (0 ≤ a0)) && (decide (a0 ≤ (a1 - 1)))))) [some (.row 1 [vi a1])] := by
  dsimp only [restore_CheckCover_f1] at h
  refine FnL.ofS (ts := [3]) Tryz.call127 Tryz.func127 rfl rfl (Nat.le_of_ble_eq_true rfl) (Nat.le_of_ble_eq_true rfl) (hall_of (.cons rfl .nil)) ?_
  refine sr [(0, vi a0), (1, .ptr 0 0 0)] [some (.row 1 [vi a1])] ?_
  refine sj ?_
  refine rn 2 [(4, vi a0), (5, vi a1)] [some (.row 1 [vi a1])] ?_
  obtain ⟨c1, h⟩ := chk_some h
  refine jv (vi (a1 - 1)) (cy (I0 6 (.bin .sub false (.t 5) (.c (.p (.int .i64 1)))))) (r_sub rfl rfl c1) rfl ?_
  obtain ⟨y1, hy1, h⟩ := bind_some h
  refine RegJ.op (Op1.call (y' := vb ((decide (0 ≤ a0)) && (decide (a0 ≤ (a1 - 1))))) (obx := []) (oby := []) (ob2 := [some (.row 1 [vi a1])]) _ _ (cy (I0 7 (.call 91 [(.t 4), (.c (.p (.int .i64 0))), (.t 6)]))) rfl (restore_within_ok n a0 0 (a1 - 1) y1 hy1) [] (by kernel_rfl) (.cons rfl (.cons rfl (.cons rfl (.cons rfl .nil)))) (by kernel_rfl) (by kernel_rfl) ObsRen.nil (by kernel_rfl) ObsRen.nil (by kernel_rfl)) ?_
  refine jq 2 [(3, vb (!((decide (0 ≤ a0)) && (decide (a0 ≤ (a1 - 1))))))] [some (.row 1 [vi a1])] ?_
  refine TriE.ret ?_
  have h := Option.some.inj h
  subst h
  exact DoneS.ret (S' := ⟨[(3, vb (!((decide (0 ≤ a0)) && (decide (a0 ≤ (a1 - 1))))))], [some (.row 1 [vi a1])]⟩) Sees.refl rfl rfl
theorem slices_IndexFunc_int_2_ok (n : Nat) (a0 : List Int) (a1 : Int) (r : Int) (h : slices_IndexFunc_int_2 n a0 a1 = some r) : FnL Tryz.prog 180 [eS 1 vi a0, .fn (.func 127) [] [.ptr 0 0 0]] [some (.row 1 [vi a1])] (vi r) [some (.row 1 [vi a1])] := by
  dsimp only [slices_IndexFunc_int_2] at h
  refine FnL.ofS (ts := [4]) Tryz.call180 Tryz.func180 rfl rfl (Nat.le_of_ble_eq_true rfl) (Nat.le_of_ble_eq_true rfl) (hall_of (.cons rfl .nil)) ?_
  refine sr [(0, eS 1 vi a0), (1, .fn (.func 127) [] [.ptr 0 0 0])] [some (.row 1 [vi a1])] ?_
  refine TriE.seqK h (fun (_ : Unit) => St.mk [] [some (.row 1 [vi a1])]) ?_ ?_
  · rintro ⟨⟩ h
    refine sr [(4, vi (-1))] [some (.row 1 [vi a1])] ?_
    refine TriE.ret ?_
    have h := Option.some.inj h
    subst h
    exact DoneS.ret (S' := ⟨[(4, vi (-1))], [some (.row 1 [vi a1])]⟩) Sees.refl rfl rfl
  intro k1 h
  refine sj ?_
  refine rn 1 [(0, eS 1 vi a0), (1, .fn (.func 127) [] [.ptr 0 0 0]), (6, eS 1 vi a0)] [some (.row 1 [vi a1])] ?_
  refine jv (vi (a0.length : Int)) (cy (I0 7 (.len 0 (.t 6)))) (ok_len_m rfl) rfl ?_
  refine jq 1 [(0, eS 1 vi a0), (1, .fn (.func 127) [] [.ptr 0 0 0]), (7, vi (a0.length : Int)), (8, vi 0)] [some (.row 1 [vi a1])] ?_
  refine TriE.block ?_
  refine TriE.sees (S' := ⟨[(0, eS 1 vi a0), (1, .fn (.func 127) [] [.ptr 0 0 0]), (7, vi (a0.length : Int)), (8, vi 0)], [some (.row 1 [vi a1])]⟩) sy ?_
  refine TriE.loopN h (fun (v2 : Nat) => St.mk [(0, eS 1 vi a0), (1, .fn (.func 127) [] [.ptr 0 0 0]), (7, vi (a0.length : Int)), (8, vi v2)] [some (.row 1 [vi a1])]) rfl ?_
  clear h
  rintro back v2 h
  dsimp only [slices_IndexFunc_int_2_L1] at h
  refine sj ?_
  refine jv (vb (decide (v2 < a0.length))) (cy (I0 9 (.bin .lss false (.t 8) (.t 7)))) (n_lss (i := v2) (j := a0.length) rfl rfl) rfl ?_
  refine jp [(0, eS 1 vi a0), (1, .fn (.func 127) [] [.ptr 0 0 0]), (7, vi (a0.length : Int)), (8, vi v2), (9, vb (decide (v2 < a0.length)))] ?_
  refine TriE.seq ?_
  refine TriE.cond (b := decide (v2 < a0.length)) rfl (fun c1 => ?_) (fun c1 => ?_)
  · have h := cond_t h c1
    refine TriE.skip ?_
    refine TriE.seq ?_
    refine TriE.block ?_
    refine sr [(0, eS 1 vi a0), (1, .fn (.func 127) [] [.ptr 0 0 0]), (7, vi (a0.length : Int)), (8, vi v2), (5, vi v2)] [some (.row 1 [vi a1])] ?_
    refine sj ?_
    refine rn 3 [(0, eS 1 vi a0), (1, .fn (.func 127) [] [.ptr 0 0 0]), (7, vi (a0.length : Int)), (8, vi v2), (5, vi v2), (11, .fn (.func 127) [] [.ptr 0 0 0]), (12, eS 1 vi a0), (13, vi v2)] [some (.row 1 [vi a1])] ?_
    refine jv (.fptr 1 (List.map vi a0) v2 0) (cy (I0 14 (.iaddr 1 (.t 12) (.t 13)))) (ok_iaddr_m (j := v2) rfl rfl rfl c1) rfl ?_
    refine jv (vi (ix a0 v2)) (cy (I0 15 (.load false 1 (.t 14)))) (ok_load_fm (v := vi (ix a0 v2)) rfl c1 rfl) rfl ?_
    obtain ⟨y3, hy3, h⟩ := bind_some h
    refine RegJ.op (Op1.dyn (y' := vb (!((decide (0 ≤ (ix a0 v2))) && (decide ((ix a0 v2) ≤ (a1 - 1)))))) (obx := [some (.row 1 [vi a1])]) (oby := [some (.row 1 [vi a1])]) (ob2 := [some (.row 1 [vi a1])]) _ _ _ (cy (I0 16 (.dyn (.t 11) [(.t 15)]))) rfl rfl (restore_CheckCover_f1_ok n (ix a0 v2) a1 y3 hy3) [0] (by kernel_rfl) (.cons rfl (.cons rfl .nil)) (by kernel_rfl) (by kernel_rfl) (.cons rfl .nil) (by kernel_rfl) (.cons rfl .nil) (by kernel_rfl)) ?_
    refine jp [(0, eS 1 vi a0), (1, .fn (.func 127) [] [.ptr 0 0 0]), (7, vi (a0.length : Int)), (8, vi v2), (5, vi v2), (16, vb (!((decide (0 ≤ (ix a0 v2))) && (decide ((ix a0 v2) ≤ (a1 - 1))))))] ?_
    refine TriE.cond (b := !((decide (0 ≤ (ix a0 v2))) && (decide ((ix a0 v2) ≤ (a1 - 1))))) rfl (fun c2 => ?_) (fun c2 => ?_)
    · have h := cond_t h c2
      refine sr [(4, vi v2)] [some (.row 1 [vi a1])] ?_
      refine TriE.ret ?_
      have h := Option.some.inj h
      subst h
      exact DoneS.ret (S' := ⟨[(4, vi v2)], [some (.row 1 [vi a1])]⟩) Sees.refl rfl rfl
    have h := cond_f h c2
    refine TriE.skip ?_
    refine TriE.regJ ?_
    obtain ⟨c3, h⟩ := chk_some h
    refine jv (vi ((v2 + 1 : Nat) : Int)) (cy (I0 18 (.bin .add false (.t 8) (.c (.p (.int .i64 1)))))) (r_addn (i := v2) (j := 1) rfl rfl c3) rfl ?_
    refine jq 1 [(0, eS 1 vi a0), (1, .fn (.func 127) [] [.ptr 0 0 0]), (7, vi (a0.length : Int)), (8, vi ((v2 + 1 : Nat) : Int))] [some (.row 1 [vi a1])] ?_
    exact Vs.intro sy ⟨(v2 + 1), rfl, h⟩
  have h := cond_f h c1
  refine TriE.exit ?_
  exact Vs.intro sy ⟨(), rfl, h⟩
theorem slices_ContainsFunc_int_2_ok (n : Nat) (a0 : List Int) (a1 : Int) (r : Bool) (h : slices_ContainsFunc_int_2 n a0 a1 = some r) : FnL Tryz.prog 126 [eS 1 vi a0, .fn (.func 127) [] [.ptr 0 0 0]] [some (.row 1 [vi a1])] (vb r) [some (.row 1 [vi a1])] := by
  dsimp only [slices_ContainsFunc_int_2] at h
  refine FnL.ofS (ts := [4]) Tryz.call126 Tryz.func126 rfl rfl (Nat.le_of_ble_eq_true rfl) (Nat.le_of_ble_eq_true rfl) (hall_of (.cons rfl .nil)) ?_
  refine sr [(0, eS 1 vi a0), (1, .fn (.func 127) [] [.ptr 0 0 0])] [some (.row 1 [vi a1])] ?_
  refine sj ?_
  refine rn 2 [(5, eS 1 vi a0), (6, .fn (.func 127) [] [.ptr 0 0 0])] [some (.row 1 [vi a1])] ?_
  obtain ⟨y1, hy1, h⟩ := bind_some h
  refine RegJ.op (Op1.call (y' := vi y1) (obx := [some (.row 1 [vi a1])]) (oby := [some (.row 1 [vi a1])]) (ob2 := [some (.row 1 [vi a1])]) _ _ (cy (I0 7 (.call 180 [(.t 5), (.t 6)]))) rfl (slices_IndexFunc_int_2_ok n a0 a1 y1 hy1) [0] (by kernel_rfl) (.cons rfl (.cons rfl (.cons rfl .nil))) (by kernel_rfl) (by kernel_rfl) (.cons rfl .nil) (by kernel_rfl) (.cons rfl .nil) (by kernel_rfl)) ?_
  refine jq 2 [(4, vb (decide ((0 : Int) ≤ y1)))] [some (.row 1 [vi a1])] ?_
  refine TriE.ret ?_
  have h := Option.some.inj h
  subst h
  exact DoneS.ret (S' := ⟨[(4, vb (decide ((0 : Int) ≤ y1)))], [some (.row 1 [vi a1])]⟩) Sees.refl rfl rfl
theorem restore_CheckCover_ok (n : Nat) (a0 : List WantedPart) (a1 : List OfferedPart) (a2 : Arr2_ListInt) (r : Int × Int) (h : restore_CheckCover n a0 a1 a2 = some r) : FnL Tryz.prog 61 [eS 2 eWantedPart a0, eS 2 eOfferedPart a1, .agg [eS 1 vi a2.a0, eS 1 vi a2.a1]] [] (.tup [vi r.2, vi r.1]) [] := by
  dsimp only [restore_CheckCover] at h
  refine FnL.ofS (ts := [6, 7]) Tryz.call61 Tryz.func61 rfl rfl (Nat.le_of_ble_eq_true rfl) (Nat.le_of_ble_eq_true rfl) (fun j h => absurd h (Nat.not_lt_zero j)) ?_
  refine sr [(0, eS 2 eWantedPart a0), (1, eS 2 eOfferedPart a1), (5, .ptr 0 0 0)] [some (.row 2 [.agg [eS 1 vi a2.a0, eS 1 vi a2.a1]])] ?_
  refine TriE.seq ?_
  refine sj ?_
  refine rn 2 [(0, eS 2 eWantedPart a0), (1, eS 2 eOfferedPart a1), (5, .ptr 0 0 0), (18, eS 2 eWantedPart a0), (19, eS 2 eOfferedPart a1)] [some (.row 2 [.agg [eS 1 vi a2.a0, eS 1 vi a2.a1]])] ?_
  obtain ⟨y1, hy1, h⟩ := bind_some h
  refine RegJ.op (Op1.call (y' := vi y1) (obx := []) (oby := []) (ob2 := [some (.row 2 [.agg [eS 1 vi a2.a0, eS 1 vi a2.a1]])]) _ _ (cy (I0 20 (.call 123 [(.t 18), (.t 19)]))) rfl (restore_checkBoth_ok n a0 a1 y1 hy1) [] (by kernel_rfl) (.cons rfl (.cons rfl (.cons rfl .nil))) (by kernel_rfl) (by kernel_rfl) ObsRen.nil (by kernel_rfl) ObsRen.nil (by kernel_rfl)) ?_
  refine jq 1 [(0, eS 2 eWantedPart a0), (1, eS 2 eOfferedPart a1), (5, .ptr 0 0 0), (8, vi y1)] [some (.row 2 [.agg [eS 1 vi a2.a0, eS 1 vi a2.a1]])] ?_
  refine sr [(0, eS 2 eWantedPart a0), (1, eS 2 eOfferedPart a1), (5, .ptr 0 0 0), (8, vi y1), (22, vb (y1 != (0 : Int)))] [some (.row 2 [.agg [eS 1 vi a2.a0, eS 1 vi a2.a1]])] ?_
  refine TriE.cond (b := (y1 != (0 : Int))) rfl (fun c1 => ?_) (fun c1 => ?_)
  · have h := cond_t h c1
    refine sr [(6, vi 0), (7, vi y1)] [some (.row 2 [.agg [eS 1 vi a2.a0, eS 1 vi a2.a1]])] ?_
    refine TriE.ret ?_
    have h := Option.some.inj h
    subst h
    exact DoneS.ret (S' := ⟨[(6, vi 0), (7, vi y1)], []⟩) (sc [] (by decide) (by kernel_rfl) ObRen.nil rfl rfl) rfl rfl
  have h := cond_f h c1
  refine TriE.skip ?_
  refine TriE.seq ?_
  refine sj ?_
  refine rn 1 [(0, eS 2 eWantedPart a0), (1, eS 2 eOfferedPart a1), (5, .ptr 0 0 0), (24, eS 2 eWantedPart a0)] [some (.row 2 [.agg [eS 1 vi a2.a0, eS 1 vi a2.a1]])] ?_
  refine jv (vi (a0.length : Int)) (cy (I0 25 (.len 0 (.t 24)))) (ok_len_m rfl) rfl ?_
  refine rn 1 [(0, eS 2 eWantedPart a0), (1, eS 2 eOfferedPart a1), (5, .ptr 0 0 0), (25, vi (a0.length : Int)), (26, eS 2 eOfferedPart a1)] [some (.row 2 [.agg [eS 1 vi a2.a0, eS 1 vi a2.a1]])] ?_
  refine jv (vi (a1.length : Int)) (cy (I0 27 (.len 0 (.t 26)))) (ok_len_m rfl) rfl ?_
  refine jq 2 [(0, eS 2 eWantedPart a0), (1, eS 2 eOfferedPart a1), (5, .ptr 0 0 0), (28, .agg [vi (a0.length : Int), vi (a1.length : Int)]), (29, vi 0)] [some (.row 2 [.agg [eS 1 vi a2.a0, eS 1 vi a2.a1]])] ?_
  refine TriE.block ?_
  refine TriE.rnd 3 ?_
  refine RndE.seq ?_
  refine sr [(0, eS 2 eWantedPart a0), (1, eS 2 eOfferedPart a1), (5, .ptr 0 0 0), (28, .agg [vi (a0.length : Int), vi (a1.length : Int)]), (29, vi 0), (30, vb true)] [some (.row 2 [.agg [eS 1 vi a2.a0, eS 1 vi a2.a1]])] ?_
  refine TriE.seq ?_
  refine TriE.cond (b := true) rfl (fun c2 => ?_) (fun c2 => ?_)
  rotate_left
  · cases c2
  refine TriE.skip ?_
  refine TriE.seq ?_
  refine TriE.block ?_
  refine sr [(0, eS 2 eWantedPart a0), (1, eS 2 eOfferedPart a1), (5, .ptr 0 0 0), (28, .agg [vi (a0.length : Int), vi (a1.length : Int)]), (29, vi 0), (10, .ptr 1 0 0), (9, vi 0)] [some (.row 2 [.agg [eS 1 vi a2.a0, eS 1 vi a2.a1]]), some (.row 1 [vi (a0.length : Int)])] ?_
  refine sj ?_
  refine rn 4 [(0, eS 2 eWantedPart a0), (1, eS 2 eOfferedPart a1), (5, .ptr 0 0 0), (28, .agg [vi (a0.length : Int), vi (a1.length : Int)]), (29, vi 0), (35, eS 1 vi a2.a0), (36, .fn (.func 127) [] [.ptr 1 0 0])] [some (.row 2 [.agg [eS 1 vi a2.a0, eS 1 vi a2.a1]]), some (.row 1 [vi (a0.length : Int)])] ?_
  obtain ⟨y2, hy2, h⟩ := bind_some h
  refine RegJ.op (Op1.call (y' := vb y2) (obx := [some (.row 1 [vi (a0.length : Int)])]) (oby := [some (.row 1 [vi (a0.length : Int)])]) (ob2 := [some (.row 2 [.agg [eS 1 vi a2.a0, eS 1 vi a2.a1]]), some (.row 1 [vi (a0.length : Int)])]) _ _ (cy (I0 37 (.call 126 [(.t 35), (.t 36)]))) rfl (slices_ContainsFunc_int_2_ok n a2.a0 (a0.length : Int) y2 hy2) [1] (by kernel_rfl) (.cons rfl (.cons rfl (.cons rfl .nil))) (by kernel_rfl) (by kernel_rfl) (.cons rfl .nil) (by kernel_rfl) (.cons rfl .nil) (by kernel_rfl)) ?_
  refine jp [(0, eS 2 eWantedPart a0), (1, eS 2 eOfferedPart a1), (5, .ptr 0 0 0), (28, .agg [vi (a0.length : Int), vi (a1.length : Int)]), (29, vi 0), (37, vb y2)] ?_
  refine TriE.cond (b := y2) rfl (fun c3 => ?_) (fun c3 => ?_)
  · have h := cond_t h c3
    refine sr [(6, vi 0), (7, vi 6)] [some (.row 2 [.agg [eS 1 vi a2.a0, eS 1 vi a2.a1]]), some (.row 1 [vi (a0.length : Int)])] ?_
    refine TriE.ret ?_
    have h := Option.some.inj h
    subst h
    exact DoneS.ret (S' := ⟨[(6, vi 0), (7, vi 6)], []⟩) (sc [] (by decide) (by kernel_rfl) ObRen.nil rfl rfl) rfl rfl
  have h := cond_f h c3
  refine TriE.skip ?_
  refine TriE.regJ ?_
  refine jv (vi 1) (cy (I0 38 (.bin .add false (.t 29) (.c (.p (.int .i64 1)))))) (r_addn (i := 0) (j := 1) rfl rfl rfl) rfl ?_
  refine jq 1 [(0, eS 2 eWantedPart a0), (1, eS 2 eOfferedPart a1), (5, .ptr 0 0 0), (28, .agg [vi (a0.length : Int), vi (a1.length : Int)]), (29, vi 1)] [some (.row 2 [.agg [eS 1 vi a2.a0, eS 1 vi a2.a1]]), some (.row 1 [vi (a0.length : Int)])] ?_
  refine RndE.seq ?_
  refine sr [(0, eS 2 eWantedPart a0), (1, eS 2 eOfferedPart a1), (5, .ptr 0 0 0), (28, .agg [vi (a0.length : Int), vi (a1.length : Int)]), (29, vi 1), (30, vb true)] [some (.row 2 [.agg [eS 1 vi a2.a0, eS 1 vi a2.a1]]), some (.row 1 [vi (a0.length : Int)])] ?_
  refine TriE.seq ?_
  refine TriE.cond (b := true) rfl (fun c4 => ?_) (fun c4 => ?_)
  rotate_left
  · cases c4
  refine TriE.skip ?_
  refine TriE.seq ?_
  refine TriE.block ?_
  refine sr [(0, eS 2 eWantedPart a0), (1, eS 2 eOfferedPart a1), (5, .ptr 0 0 0), (28, .agg [vi (a0.length : Int), vi (a1.length : Int)]), (29, vi 1), (10, .ptr 2 0 0), (9, vi 1)] [some (.row 2 [.agg [eS 1 vi a2.a0, eS 1 vi a2.a1]]), some (.row 1 [vi (a0.length : Int)]), some (.row 1 [vi (a1.length : Int)])] ?_
  refine sj ?_
  refine rn 4 [(0, eS 2 eWantedPart a0), (1, eS 2 eOfferedPart a1), (5, .ptr 0 0 0), (28, .agg [vi (a0.length : Int), vi (a1.length : Int)]), (29, vi 1), (35, eS 1 vi a2.a1), (36, .fn (.func 127) [] [.ptr 2 0 0])] [some (.row 2 [.agg [eS 1 vi a2.a0, eS 1 vi a2.a1]]), some (.row 1 [vi (a0.length : Int)]), some (.row 1 [vi (a1.length : Int)])] ?_
  obtain ⟨y3, hy3, h⟩ := bind_some h
  refine RegJ.op (Op1.call (y' := vb y3) (obx := [some (.row 1 [vi (a1.length : Int)])]) (oby := [some (.row 1 [vi (a1.length : Int)])]) (ob2 := [some (.row 2 [.agg [eS 1 vi a2.a0, eS 1 vi a2.a1]]), some (.row 1 [vi (a0.length : Int)]), some (.row 1 [vi (a1.length : Int)])]) _ _ (cy (I0 37 (.call 126 [(.t 35), (.t 36)]))) rfl (slices_ContainsFunc_int_2_ok n a2.a1 (a1.length : Int) y3 hy3) [2] (by kernel_rfl) (.cons rfl (.cons rfl (.cons rfl .nil))) (by kernel_rfl) (by kernel_rfl) (.cons rfl .nil) (by kernel_rfl) (.cons rfl .nil) (by kernel_rfl)) ?_
  refine jp [(0, eS 2 eWantedPart a0), (1, eS 2 eOfferedPart a1), (5, .ptr 0 0 0), (28, .agg [vi (a0.length : Int), vi (a1.length : Int)]), (29, vi 1), (37, vb y3)] ?_
  refine TriE.cond (b := y3) rfl (fun c5 => ?_) (fun c5 => ?_)
  · have h := cond_t h c5
    refine sr [(6, vi 0), (7, vi 6)] [some (.row 2 [.agg [eS 1 vi a2.a0, eS 1 vi a2.a1]]), some (.row 1 [vi (a0.length : Int)]), some (.row 1 [vi (a1.length : Int)])] ?_
    refine TriE.ret ?_
    have h := Option.some.inj h
    subst h
    exact DoneS.ret (S' := ⟨[(6, vi 0), (7, vi 6)], []⟩) (sc [] (by decide) (by kernel_rfl) ObRen.nil rfl rfl) rfl rfl
  have h := cond_f h c5
  refine TriE.skip ?_
  refine TriE.regJ ?_
  refine jv (vi 2) (cy (I0 38 (.bin .add false (.t 29) (.c (.p (.int .i64 1)))))) (r_addn (i := 1) (j := 1) rfl rfl rfl) rfl ?_
  refine jq 1 [(0, eS 2 eWantedPart a0), (1, eS 2 eOfferedPart a1), (5, .ptr 0 0 0), (28, .agg [vi (a0.length : Int), vi (a1.length : Int)]), (29, vi 2)] [some (.row 2 [.agg [eS 1 vi a2.a0, eS 1 vi a2.a1]]), some (.row 1 [vi (a0.length : Int)]), some (.row 1 [vi (a1.length : Int)])] ?_
  refine RndE.seq ?_
  refine sr [(0, eS 2 eWantedPart a0), (1, eS 2 eOfferedPart a1), (5, .ptr 0 0 0), (28, .agg [vi (a0.length : Int), vi (a1.length : Int)]), (29, vi 2), (30, vb false)] [some (.row 2 [.agg [eS 1 vi a2.a0, eS 1 vi a2.a1]]), some (.row 1 [vi (a0.length : Int)]), some (.row 1 [vi (a1.length : Int)])] ?_
  refine TriE.seq ?_
  refine TriE.cond (b := false) rfl (fun c6 => ?_) (fun c6 => ?_)
  · cases c6
  refine TriE.exit ?_
  refine TriE.seq ?_
  refine sr [(0, eS 2 eWantedPart a0), (1, eS 2 eOfferedPart a1), (5, .ptr 0 0 0), (39, .agg [eS 1 vi a2.a0, eS 1 vi a2.a1]), (40, vi 0)] [some (.row 2 [.agg [eS 1 vi a2.a0, eS 1 vi a2.a1]]), some (.row 1 [vi (a0.length : Int)]), some (.row 1 [vi (a1.length : Int)])] ?_
  refine TriE.block ?_
  refine TriE.rnd 3 ?_
  refine RndE.seq ?_
  refine sr [(0, eS 2 eWantedPart a0), (1, eS 2 eOfferedPart a1), (5, .ptr 0 0 0), (39, .agg [eS 1 vi a2.a0, eS 1 vi a2.a1]), (40, vi 0), (41, vb true)] [some (.row 2 [.agg [eS 1 vi a2.a0, eS 1 vi a2.a1]]), some (.row 1 [vi (a0.length : Int)]), some (.row 1 [vi (a1.length : Int)])] ?_
  refine TriE.seq ?_
  refine TriE.cond (b := true) rfl (fun c7 => ?_) (fun c7 => ?_)
  rotate_left
  · cases c7
  refine TriE.skip ?_
  refine TriE.seqK h (fun (_ : Unit) => St.mk [(0, eS 2 eWantedPart a0), (1, eS 2 eOfferedPart a1), (5, .ptr 0 0 0), (39, .agg [eS 1 vi a2.a0, eS 1 vi a2.a1]), (40, vi 0)] [some (.row 2 [.agg [eS 1 vi a2.a0, eS 1 vi a2.a1]])]) ?_ ?_
  · rintro ⟨⟩ h
    refine TriE.regJ ?_
    refine jv (vi 1) (cy (I0 59 (.bin .add false (.t 40) (.c (.p (.int .i64 1)))))) (r_addn (i := 0) (j := 1) rfl rfl rfl) rfl ?_
    refine jq 1 [(0, eS 2 eWantedPart a0), (1, eS 2 eOfferedPart a1), (5, .ptr 0 0 0), (39, .agg [eS 1 vi a2.a0, eS 1 vi a2.a1]), (40, vi 1)] [some (.row 2 [.agg [eS 1 vi a2.a0, eS 1 vi a2.a1]])] ?_
    refine RndE.seq ?_
    refine sr [(0, eS 2 eWantedPart a0), (1, eS 2 eOfferedPart a1), (5, .ptr 0 0 0), (39, .agg [eS 1 vi a2.a0, eS 1 vi a2.a1]), (40, vi 1), (41, vb true)] [some (.row 2 [.agg [eS 1 vi a2.a0, eS 1 vi a2.a1]])] ?_
    refine TriE.seq ?_
    refine TriE.cond (b := true) rfl (fun c16 => ?_) (fun c16 => ?_)
    rotate_left
    · cases c16
    refine TriE.skip ?_
    refine TriE.seqK h (fun (_ : Unit) => St.mk [(0, eS 2 eWantedPart a0), (1, eS 2 eOfferedPart a1), (5, .ptr 0 0 0), (39, .agg [eS 1 vi a2.a0, eS 1 vi a2.a1]), (40, vi 1)] [some (.row 2 [.agg [eS 1 vi a2.a0, eS 1 vi a2.a1]])]) ?_ ?_
    · rintro ⟨⟩ h
      refine TriE.regJ ?_
      refine jv (vi 2) (cy (I0 59 (.bin .add false (.t 40) (.c (.p (.int .i64 1)))))) (r_addn (i := 1) (j := 1) rfl rfl rfl) rfl ?_
      refine jq 1 [(0, eS 2 eWantedPart a0), (1, eS 2 eOfferedPart a1), (5, .ptr 0 0 0), (39, .agg [eS 1 vi a2.a0, eS 1 vi a2.a1]), (40, vi 2)] [some (.row 2 [.agg [eS 1 vi a2.a0, eS 1 vi a2.a1]])] ?_
      refine RndE.seq ?_
      refine sr [(0, eS 2 eWantedPart a0), (1, eS 2 eOfferedPart a1), (5, .ptr 0 0 0), (39, .agg [eS 1 vi a2.a0, eS 1 vi a2.a1]), (40, vi 2), (41, vb false)] [some (.row 2 [.agg [eS 1 vi a2.a0, eS 1 vi a2.a1]])] ?_
      refine TriE.seq ?_
      refine TriE.cond (b := false) rfl (fun c25 => ?_) (fun c25 => ?_)
      · cases c25
      refine TriE.exit ?_
      refine TriE.seqK h (fun (_ : Unit) => St.mk [(5, .ptr 0 0 0)] [some (.row 2 [.agg [eS 1 vi a2.a0, eS 1 vi a2.a1]])]) ?_ ?_
      · rintro ⟨⟩ h
        refine sj ?_
        refine rn 2 [(5, .ptr 0 0 0), (94, eS 1 vi a2.a0)] [some (.row 2 [.agg [eS 1 vi a2.a0, eS 1 vi a2.a1]])] ?_
        refine jv (vi ((a2.a0.length : Nat) : Int)) (cy (I0 95 (.len 0 (.t 94)))) (ok_len_m rfl) rfl ?_
        refine rn 2 [(95, vi ((a2.a0.length : Nat) : Int)), (97, eS 1 vi a2.a1)] [some (.row 2 [.agg [eS 1 vi a2.a0, eS 1 vi a2.a1]])] ?_
        refine jv (vi ((a2.a1.length : Nat) : Int)) (cy (I0 98 (.len 0 (.t 97)))) (ok_len_m rfl) rfl ?_
        obtain ⟨c35, h⟩ := chk_some h
        refine jv (vi ((a2.a0.length + a2.a1.length : Nat) : Int)) (cy (I0 99 (.bin .add false (.t 95) (.t 98)))) (r_addn (i := a2.a0.length) (j := a2.a1.length) rfl rfl c35) rfl ?_
        refine jq 2 [(6, vi ((a2.a0.length + a2.a1.length : Nat) : Int)), (7, vi 0)] [some (.row 2 [.agg [eS 1 vi a2.a0, eS 1 vi a2.a1]])] ?_
        refine TriE.ret ?_
        have h := Option.some.inj h
        subst h
        exact DoneS.ret (S' := ⟨[(6, vi ((a2.a0.length + a2.a1.length : Nat) : Int)), (7, vi 0)], []⟩) (sc [] (by decide) (by kernel_rfl) ObRen.nil rfl rfl) rfl rfl
      intro k4 h
      refine sj ?_
      refine rn 1 [(1, eS 2 eOfferedPart a1), (5, .ptr 0 0 0), (60, eS 2 eWantedPart a0)] [some (.row 2 [.agg [eS 1 vi a2.a0, eS 1 vi a2.a1]])] ?_
      refine jv (vi (a0.length : Int)) (cy (I0 61 (.len 0 (.t 60)))) (ok_len_m rfl) rfl ?_
      refine jq 1 [(1, eS 2 eOfferedPart a1), (5, .ptr 0 0 0), (60, eS 2 eWantedPart a0), (61, vi (a0.length : Int)), (62, vi 0)] [some (.row 2 [.agg [eS 1 vi a2.a0, eS 1 vi a2.a1]])] ?_
      refine TriE.block ?_
      refine TriE.loopN h (fun (v13 : Int) => St.mk [(1, eS 2 eOfferedPart a1), (5, .ptr 0 0 0), (60, eS 2 eWantedPart a0), (61, vi (a0.length : Int)), (62, vi v13)] [some (.row 2 [.agg [eS 1 vi a2.a0, eS 1 vi a2.a1]])]) rfl ?_
      clear h
      rintro back v13 h
      dsimp only [restore_CheckCover_L4] at h
      refine sr [(1, eS 2 eOfferedPart a1), (5, .ptr 0 0 0), (60, eS 2 eWantedPart a0), (61, vi (a0.length : Int)), (62, vi v13), (63, vb (decide (v13 < (a0.length : Int))))] [some (.row 2 [.agg [eS 1 vi a2.a0, eS 1 vi a2.a1]])] ?_
      refine TriE.seq ?_
      refine TriE.cond (b := decide (v13 < (a0.length : Int))) rfl (fun c26 => ?_) (fun c26 => ?_)
      · have h := cond_t h c26
        refine TriE.skip ?_
        refine TriE.seqK h (fun (_ : Unit) => St.mk [(1, eS 2 eOfferedPart a1), (5, .ptr 0 0 0), (60, eS 2 eWantedPart a0), (61, vi (a0.length : Int)), (62, vi v13)] [some (.row 2 [.agg [eS 1 vi a2.a0, eS 1 vi a2.a1]])]) ?_ ?_
        · rintro ⟨⟩ h
          refine TriE.regJ ?_
          obtain ⟨c34, h⟩ := chk_some h
          refine jv (vi (v13 + 1)) (cy (I0 92 (.bin .add false (.t 62) (.c (.p (.int .i64 1)))))) (r_add rfl rfl c34) rfl ?_
          refine jq 1 [(1, eS 2 eOfferedPart a1), (5, .ptr 0 0 0), (60, eS 2 eWantedPart a0), (61, vi (a0.length : Int)), (62, vi (v13 + 1))] [some (.row 2 [.agg [eS 1 vi a2.a0, eS 1 vi a2.a1]])] ?_
          exact Vs.intro Sees.refl ⟨(v13 + 1), rfl, h⟩
        intro k3 h
        refine TriE.block ?_
        refine sj ?_
        refine rn 1 [(1, eS 2 eOfferedPart a1), (5, .ptr 0 0 0), (60, eS 2 eWantedPart a0), (61, vi (a0.length : Int)), (62, vi v13), (64, vi v13)] [some (.row 2 [.agg [eS 1 vi a2.a0, eS 1 vi a2.a1]])] ?_
        obtain ⟨c27, h⟩ := chk_some h
        refine jv (.fptr 2 (List.map eWantedPart a0) v13.toNat 0) (cy (I0 65 (.iaddr 2 (.t 60) (.t 62)))) (ok_iaddr_m (j := v13.toNat) rfl rfl (inB_to c27) (inB_lt c27)) rfl ?_
        obtain ⟨c28, h⟩ := chk_some h
        refine jv (.agg [vt ((ix a0 v13.toNat).Name), eS 2 eRange ((ix a0 v13.toNat).Ranges)]) (cy (I0 66 (.load true 2 (.t 65)))) (ok_load_fm (v := .agg [vt ((ix a0 v13.toNat).Name), eS 2 eRange ((ix a0 v13.toNat).Ranges)]) rfl c28 rfl) rfl ?_
        refine jq 3 [(1, eS 2 eOfferedPart a1), (5, .ptr 0 0 0), (60, eS 2 eWantedPart a0), (61, vi (a0.length : Int)), (62, vi v13), (15, .ptr 1 0 0), (14, vi v13)] [some (.row 2 [.agg [eS 1 vi a2.a0, eS 1 vi a2.a1]]), some (.row 2 [.agg [vt ((ix a0 v13.toNat).Name), eS 2 eRange ((ix a0 v13.toNat).Ranges)]])] ?_
        refine sj ?_
        refine rn 1 [(1, eS 2 eOfferedPart a1), (5, .ptr 0 0 0), (60, eS 2 eWantedPart a0), (61, vi (a0.length : Int)), (62, vi v13), (15, .ptr 1 0 0), (14, vi v13), (67, eS 2 eOfferedPart a1)] [some (.row 2 [.agg [eS 1 vi a2.a0, eS 1 vi a2.a1]]), some (.row 2 [.agg [vt ((ix a0 v13.toNat).Name), eS 2 eRange ((ix a0 v13.toNat).Ranges)]])] ?_
        refine jv (vi (a1.length : Int)) (cy (I0 68 (.len 0 (.t 67)))) (ok_len_m rfl) rfl ?_
        refine jq 1 [(1, eS 2 eOfferedPart a1), (5, .ptr 0 0 0), (60, eS 2 eWantedPart a0), (61, vi (a0.length : Int)), (62, vi v13), (15, .ptr 1 0 0), (14, vi v13), (67, eS 2 eOfferedPart a1), (68, vi (a1.length : Int)), (69, vi 0)] [some (.row 2 [.agg [eS 1 vi a2.a0, eS 1 vi a2.a1]]), some (.row 2 [.agg [vt ((ix a0 v13.toNat).Name), eS 2 eRange ((ix a0 v13.toNat).Ranges)]])] ?_
        refine TriE.block ?_
        refine TriE.loopN h (fun (v17 : Int) => St.mk [(1, eS 2 eOfferedPart a1), (5, .ptr 0 0 0), (60, eS 2 eWantedPart a0), (61, vi (a0.length : Int)), (62, vi v13), (15, .ptr 1 0 0), (14, vi v13), (67, eS 2 eOfferedPart a1), (68, vi (a1.length : Int)), (69, vi v17)] [some (.row 2 [.agg [eS 1 vi a2.a0, eS 1 vi a2.a1]]), some (.row 2 [.agg [vt ((ix a0 v13.toNat).Name), eS 2 eRange ((ix a0 v13.toNat).Ranges)]])]) rfl ?_
        clear h
        rintro back v17 h
        dsimp only [restore_CheckCover_L3] at h
        refine sr [(1, eS 2 eOfferedPart a1), (5, .ptr 0 0 0), (60, eS 2 eWantedPart a0), (61, vi (a0.length : Int)), (62, vi v13), (15, .ptr 1 0 0), (14, vi v13), (67, eS 2 eOfferedPart a1), (68, vi (a1.length : Int)), (69, vi v17), (70, vb (decide (v17 < (a1.length : Int))))] [some (.row 2 [.agg [eS 1 vi a2.a0, eS 1 vi a2.a1]]), some (.row 2 [.agg [vt ((ix a0 v13.toNat).Name), eS 2 eRange ((ix a0 v13.toNat).Ranges)]])] ?_
        refine TriE.seq ?_
        refine TriE.cond (b := decide (v17 < (a1.length : Int))) rfl (fun c29 => ?_) (fun c29 => ?_)
        · have h := cond_t h c29
          refine TriE.skip ?_
          refine TriE.seq ?_
          refine TriE.block ?_
          refine sj ?_
          refine rn 1 [(1, eS 2 eOfferedPart a1), (5, .ptr 0 0 0), (60, eS 2 eWantedPart a0), (61, vi (a0.length : Int)), (62, vi v13), (15, .ptr 1 0 0), (14, vi v13), (67, eS 2 eOfferedPart a1), (68, vi (a1.length : Int)), (69, vi v17), (71, vi v17)] [some (.row 2 [.agg [eS 1 vi a2.a0, eS 1 vi a2.a1]]), some (.row 2 [.agg [vt ((ix a0 v13.toNat).Name), eS 2 eRange ((ix a0 v13.toNat).Ranges)]])] ?_
          obtain ⟨c30, h⟩ := chk_some h
          refine jv (.fptr 2 (List.map eOfferedPart a1) v17.toNat 0) (cy (I0 72 (.iaddr 2 (.t 67) (.t 69)))) (ok_iaddr_m (j := v17.toNat) rfl rfl (inB_to c30) (inB_lt c30)) rfl ?_
          obtain ⟨c31, h⟩ := chk_some h
          refine jv (.agg [vt ((ix a1 v17.toNat).Name), eS 1 vi ((ix a1 v17.toNat).Sizes)]) (cy (I0 73 (.load true 2 (.t 72)))) (ok_load_fm (v := .agg [vt ((ix a1 v17.toNat).Name), eS 1 vi ((ix a1 v17.toNat).Sizes)]) rfl c31 rfl) rfl ?_
          refine jq 3 [(1, eS 2 eOfferedPart a1), (5, .ptr 0 0 0), (60, eS 2 eWantedPart a0), (61, vi (a0.length : Int)), (62, vi v13), (15, .ptr 1 0 0), (14, vi v13), (67, eS 2 eOfferedPart a1), (68, vi (a1.length : Int)), (69, vi v17), (17, .ptr 2 0 0), (16, vi v17)] [some (.row 2 [.agg [eS 1 vi a2.a0, eS 1 vi a2.a1]]), some (.row 2 [.agg [vt ((ix a0 v13.toNat).Name), eS 2 eRange ((ix a0 v13.toNat).Ranges)]]), some (.row 2 [.agg [vt ((ix a1 v17.toNat).Name), eS 1 vi ((ix a1 v17.toNat).Sizes)]])] ?_
          refine sj ?_
          refine rn 2 [(1, eS 2 eOfferedPart a1), (5, .ptr 0 0 0), (60, eS 2 eWantedPart a0), (61, vi (a0.length : Int)), (62, vi v13), (15, .ptr 1 0 0), (14, vi v13), (67, eS 2 eOfferedPart a1), (68, vi (a1.length : Int)), (69, vi v17), (16, vi v17), (74, .agg [vt ((ix a0 v13.toNat).Name), eS 2 eRange ((ix a0 v13.toNat).Ranges)]), (75, .agg [vt ((ix a1 v17.toNat).Name), eS 1 vi ((ix a1 v17.toNat).Sizes)])] [some (.row 2 [.agg [eS 1 vi a2.a0, eS 1 vi a2.a1]]), some (.row 2 [.agg [vt ((ix a0 v13.toNat).Name), eS 2 eRange ((ix a0 v13.toNat).Ranges)]]), some (.row 2 [.agg [vt ((ix a1 v17.toNat).Name), eS 1 vi ((ix a1 v17.toNat).Sizes)]])] ?_
          obtain ⟨y18, hy18, h⟩ := bind_some h
          refine RegJ.op (Op1.call (y' := vb y18) (obx := []) (oby := []) (ob2 := [some (.row 2 [.agg [eS 1 vi a2.a0, eS 1 vi a2.a1]]), some (.row 2 [.agg [vt ((ix a0 v13.toNat).Name), eS 2 eRange ((ix a0 v13.toNat).Ranges)]]), some (.row 2 [.agg [vt ((ix a1 v17.toNat).Name), eS 1 vi ((ix a1 v17.toNat).Sizes)]])]) _ _ (cy (I0 76 (.call 124 [(.t 74), (.t 75)]))) rfl (restore_fits_ok n (ix a0 v13.toNat) (ix a1 v17.toNat) y18 hy18) [] (by kernel_rfl) (.cons rfl (.cons rfl (.cons rfl .nil))) (by kernel_rfl) (by kernel_rfl) ObsRen.nil (by kernel_rfl) ObsRen.nil (by kernel_rfl)) ?_
          refine rn 1 [(1, eS 2 eOfferedPart a1), (5, .ptr 0 0 0), (60, eS 2 eWantedPart a0), (61, vi (a0.length : Int)), (62, vi v13), (15, .ptr 1 0 0), (14, vi v13), (67, eS 2 eOfferedPart a1), (68, vi (a1.length : Int)), (69, vi v17), (16, vi v17), (77, vb y18)] [some (.row 2 [.agg [eS 1 vi a2.a0, eS 1 vi a2.a1]]), some (.row 2 [.agg [vt ((ix a0 v13.toNat).Name), eS 2 eRange ((ix a0 v13.toNat).Ranges)]]), some (.row 2 [.agg [vt ((ix a1 v17.toNat).Name), eS 1 vi ((ix a1 v17.toNat).Sizes)]])] ?_
          refine RegJ.op (Op1.valk (v := .ptr 0 0 0) _ _ (cy (IG 78 (.aaddr 2 1 (.t 5) (.c (.p (.int .i64 0)))) 77 true)) rfl (by kernel_rfl) (fun hg => (.cons rfl (.cons rfl .nil)))) ?_
          refine RegJ.op (Op1.valk (v := eS 1 vi a2.a0) _ _ (cy (IG 79 (.load false 1 (.t 78)) 77 true)) rfl (by kernel_rfl) (fun hg => (.cons hg .nil))) ?_
          refine RegJ.op (Op1.valk (v := vi v13) _ _ (cy (IG 80 (.mov (.t 14)) 77 true)) rfl (by kernel_rfl) (fun hg => (.cons rfl .nil))) ?_
          obtain ⟨y19, hy19, h⟩ := bind_some h
          refine RegJ.op (Op1.callg (g := y18) (y' := vb y19) (obx := []) _ _ (cy (IG 81 (.call 125 [(.t 79), (.t 80)]) 77 true)) rfl (fun hg => slices_Contains_int_ok n a2.a0 v13 y19 (gcall_some hy19 hg)) [] (fun hg => by kernel_rfl) (fun hg => (.cons rfl (.cons hg (.cons hg .nil)))) (by kernel_rfl) (by kernel_rfl) ObsRen.nil (by kernel_rfl) (by kernel_rfl)) ?_
          refine RegJ.op (Op1.valk (v := vb (!y19)) _ _ (cy (IG 82 (.un .not (.t 81)) 77 true)) rfl (by kernel_rfl) (fun hg => (.cons hg .nil))) ?_
          refine RegJ.op (Op1.and (cy (I0 83 (.pick (.t 77) (.t 82) (.c (.p (.bool false)))))) rfl rfl (by first | exact hokA1 | exact hokA0 | simp)) ?_
          refine rn 1 [(1, eS 2 eOfferedPart a1), (5, .ptr 0 0 0), (60, eS 2 eWantedPart a0), (61, vi (a0.length : Int)), (62, vi v13), (15, .ptr 1 0 0), (14, vi v13), (67, eS 2 eOfferedPart a1), (68, vi (a1.length : Int)), (69, vi v17), (16, vi v17), (78, .cond y18 (.ptr 0 0 0)), (79, .cond y18 (eS 1 vi a2.a0)), (80, .cond y18 (vi v13)), (81, .cond y18 (vb y19)), (82, .cond y18 (vb (!y19))), (84, vb (y18 && (!y19)))] [some (.row 2 [.agg [eS 1 vi a2.a0, eS 1 vi a2.a1]]), some (.row 2 [.agg [vt ((ix a0 v13.toNat).Name), eS 2 eRange ((ix a0 v13.toNat).Ranges)]]), some (.row 2 [.agg [vt ((ix a1 v17.toNat).Name), eS 1 vi ((ix a1 v17.toNat).Sizes)]])] ?_
          refine RegJ.op (Op1.valk (v := .ptr 0 0 1) _ _ (cy (IG 85 (.aaddr 2 1 (.t 5) (.c (.p (.int .i64 1)))) 84 true)) rfl (by kernel_rfl) (fun hg => (.cons rfl (.cons rfl .nil)))) ?_
          refine RegJ.op (Op1.valk (v := eS 1 vi a2.a1) _ _ (cy (IG 86 (.load false 1 (.t 85)) 84 true)) rfl (by kernel_rfl) (fun hg => (.cons hg .nil))) ?_
          refine RegJ.op (Op1.valk (v := vi v17) _ _ (cy (IG 87 (.mov (.t 16)) 84 true)) rfl (by kernel_rfl) (fun hg => (.cons rfl .nil))) ?_
          obtain ⟨y20, hy20, h⟩ := bind_some h
          refine RegJ.op (Op1.callg (g := y18 && (!y19)) (y' := vb y20) (obx := []) _ _ (cy (IG 88 (.call 125 [(.t 86), (.t 87)]) 84 true)) rfl (fun hg => slices_Contains_int_ok n a2.a1 v17 y20 (gcall_some hy20 hg)) [] (fun hg => by kernel_rfl) (fun hg => (.cons rfl (.cons hg (.cons hg .nil)))) (by kernel_rfl) (by kernel_rfl) ObsRen.nil (by kernel_rfl) (by kernel_rfl)) ?_
          refine RegJ.op (Op1.valk (v := vb (!y20)) _ _ (cy (IG 89 (.un .not (.t 88)) 84 true)) rfl (by kernel_rfl) (fun hg => (.cons hg .nil))) ?_
          refine RegJ.op (Op1.and (cy (I0 90 (.pick (.t 84) (.t 89) (.c (.p (.bool false)))))) rfl rfl (by first | exact hokA1 | exact hokA0 | simp)) ?_
          refine jp [(1, eS 2 eOfferedPart a1), (5, .ptr 0 0 0), (60, eS 2 eWantedPart a0), (61, vi (a0.length : Int)), (62, vi v13), (15, .ptr 1 0 0), (14, vi v13), (67, eS 2 eOfferedPart a1), (68, vi (a1.length : Int)), (69, vi v17), (90, vb ((y18 && (!y19)) && (!y20)))] ?_
          refine TriE.cond (b := (y18 && (!y19)) && (!y20)) rfl (fun c32 => ?_) (fun c32 => ?_)
          · have h := cond_t h c32
            refine sr [(6, vi 0), (7, vi 14)] [some (.row 2 [.agg [eS 1 vi a2.a0, eS 1 vi a2.a1]]), some (.row 2 [.agg [vt ((ix a0 v13.toNat).Name), eS 2 eRange ((ix a0 v13.toNat).Ranges)]]), some (.row 2 [.agg [vt ((ix a1 v17.toNat).Name), eS 1 vi ((ix a1 v17.toNat).Sizes)]])] ?_
            refine TriE.ret ?_
            have h := Option.some.inj h
            subst h
            exact DoneS.ret (S' := ⟨[(6, vi 0), (7, vi 14)], []⟩) (sc [] (by decide) (by kernel_rfl) ObRen.nil rfl rfl) rfl rfl
          have h := cond_f h c32
          refine TriE.skip ?_
          refine TriE.regJ ?_
          obtain ⟨c33, h⟩ := chk_some h
          refine jv (vi (v17 + 1)) (cy (I0 91 (.bin .add false (.t 69) (.c (.p (.int .i64 1)))))) (r_add rfl rfl c33) rfl ?_
          refine jq 1 [(1, eS 2 eOfferedPart a1), (5, .ptr 0 0 0), (60, eS 2 eWantedPart a0), (61, vi (a0.length : Int)), (62, vi v13), (15, .ptr 1 0 0), (14, vi v13), (67, eS 2 eOfferedPart a1), (68, vi (a1.length : Int)), (69, vi (v17 + 1))] [some (.row 2 [.agg [eS 1 vi a2.a0, eS 1 vi a2.a1]]), some (.row 2 [.agg [vt ((ix a0 v13.toNat).Name), eS 2 eRange ((ix a0 v13.toNat).Ranges)]]), some (.row 2 [.agg [vt ((ix a1 v17.toNat).Name), eS 1 vi ((ix a1 v17.toNat).Sizes)]])] ?_
          exact Vs.intro (sc [0, 1] (by decide) (by kernel_rfl) (.cons rfl (.cons rfl .nil)) rfl rfl) ⟨(v17 + 1), rfl, h⟩
        have h := cond_f h c29
        refine TriE.exit ?_
        exact Vs.intro (sc [0] (by decide) (by kernel_rfl) (.cons rfl .nil) rfl rfl) ⟨(), rfl, h⟩
      have h := cond_f h c26
      refine TriE.exit ?_
      exact Vs.intro sy ⟨(), rfl, h⟩
    intro k2 h
    refine TriE.block ?_
    refine sr [(0, eS 2 eWantedPart a0), (1, eS 2 eOfferedPart a1), (5, .ptr 0 0 0), (39, .agg [eS 1 vi a2.a0, eS 1 vi a2.a1]), (40, vi 1), (12, eS 1 vi a2.a1)] [some (.row 2 [.agg [eS 1 vi a2.a0, eS 1 vi a2.a1]])] ?_
    refine sr [(0, eS 2 eWantedPart a0), (1, eS 2 eOfferedPart a1), (5, .ptr 0 0 0), (39, .agg [eS 1 vi a2.a0, eS 1 vi a2.a1]), (40, vi 1), (12, eS 1 vi a2.a1), (13, vi 1)] [some (.row 2 [.agg [eS 1 vi a2.a0, eS 1 vi a2.a1]])] ?_
    refine TriE.block ?_
    refine TriE.loopN h (fun (v5 : Int) => St.mk [(0, eS 2 eWantedPart a0), (1, eS 2 eOfferedPart a1), (5, .ptr 0 0 0), (39, .agg [eS 1 vi a2.a0, eS 1 vi a2.a1]), (40, vi 1), (12, eS 1 vi a2.a1), (13, vi v5)] [some (.row 2 [.agg [eS 1 vi a2.a0, eS 1 vi a2.a1]])]) rfl ?_
    clear h
    rintro back v5 h
    dsimp only [restore_CheckCover_L2] at h
    refine TriE.seq ?_
    refine sj ?_
    refine rn 2 [(0, eS 2 eWantedPart a0), (1, eS 2 eOfferedPart a1), (5, .ptr 0 0 0), (39, .agg [eS 1 vi a2.a0, eS 1 vi a2.a1]), (40, vi 1), (12, eS 1 vi a2.a1), (13, vi v5), (43, vi v5), (44, eS 1 vi a2.a1)] [some (.row 2 [.agg [eS 1 vi a2.a0, eS 1 vi a2.a1]])] ?_
    refine jv (vi ((a2.a1.length : Nat) : Int)) (cy (I0 45 (.len 0 (.t 44)))) (ok_len_m rfl) rfl ?_
    refine jq 1 [(0, eS 2 eWantedPart a0), (1, eS 2 eOfferedPart a1), (5, .ptr 0 0 0), (39, .agg [eS 1 vi a2.a0, eS 1 vi a2.a1]), (40, vi 1), (12, eS 1 vi a2.a1), (13, vi v5), (46, vb (decide (v5 < ((a2.a1.length : Nat) : Int))))] [some (.row 2 [.agg [eS 1 vi a2.a0, eS 1 vi a2.a1]])] ?_
    refine TriE.cond (b := decide (v5 < ((a2.a1.length : Nat) : Int))) rfl (fun c17 => ?_) (fun c17 => ?_)
    · have h := cond_t h c17
      refine TriE.skip ?_
      refine TriE.seq ?_
      refine TriE.block ?_
      refine TriE.seq ?_
      refine TriE.sees (Sees.less (fr' := [(0, eS 2 eWantedPart a0), (1, eS 2 eOfferedPart a1), (5, .ptr 0 0 0), (39, .agg [eS 1 vi a2.a0, eS 1 vi a2.a1]), (40, vi 1), (12, eS 1 vi a2.a1), (13, vi v5)]) (.cons rfl (.cons rfl (.cons rfl (.cons rfl (.cons rfl (.cons rfl (.cons rfl .nil)))))))) ?_
      refine TriE.draw (by kernel_rfl) ?_
      refine RegD.run 2 [(50, vi v5), (49, eS 1 vi a2.a1), (0, eS 2 eWantedPart a0), (1, eS 2 eOfferedPart a1), (5, .ptr 0 0 0), (39, .agg [eS 1 vi a2.a0, eS 1 vi a2.a1]), (40, vi 1), (12, eS 1 vi a2.a1), (13, vi v5)] [some (.row 2 [.agg [eS 1 vi a2.a0, eS 1 vi a2.a1]]), none, none] (by kernel_rfl) ?_
      obtain ⟨c18, h⟩ := chk_some h
      refine dv (.fptr 1 (List.map vi a2.a1) v5.toNat 0) (cy (I0 51 (.iaddr 1 (.t 49) (.t 50)))) (ok_iaddr_m (j := v5.toNat) rfl rfl (inB_to c18) (inB_lt c18)) rfl ?_
      obtain ⟨c19, h⟩ := chk_some h
      refine dv (vi (ix a2.a1 v5.toNat)) (cy (I0 52 (.load false 1 (.t 51)))) (ok_load_fm (v := vi (ix a2.a1 v5.toNat)) rfl c19 rfl) rfl ?_
      refine RegD.run 2 [(54, vi v5), (53, eS 1 vi a2.a1), (52, vi (ix a2.a1 v5.toNat)), (51, .fptr 1 (List.map vi a2.a1) v5.toNat 0), (50, vi v5), (49, eS 1 vi a2.a1), (0, eS 2 eWantedPart a0), (1, eS 2 eOfferedPart a1), (5, .ptr 0 0 0), (39, .agg [eS 1 vi a2.a0, eS 1 vi a2.a1]), (40, vi 1), (12, eS 1 vi a2.a1), (13, vi v5)] [some (.row 2 [.agg [eS 1 vi a2.a0, eS 1 vi a2.a1]]), none, none, none, none, none, none] (by kernel_rfl) ?_
      obtain ⟨c20, h⟩ := chk_some h
      refine dv (vi (v5 - 1)) (cy (I0 55 (.bin .sub false (.t 54) (.c (.p (.int .i64 1)))))) (r_sub rfl rfl c20) rfl ?_
      obtain ⟨c21, h⟩ := chk_some h
      refine dv (.fptr 1 (List.map vi a2.a1) ((v5 - 1).toNat) 0) (cy (I0 56 (.iaddr 1 (.t 53) (.t 55)))) (ok_iaddr_m (j := (v5 - 1).toNat) rfl rfl (inB_to c21) (inB_lt c21)) rfl ?_
      obtain ⟨c22, h⟩ := chk_some h
      refine dv (vi (ix a2.a1 ((v5 - 1).toNat))) (cy (I0 57 (.load false 1 (.t 56)))) (ok_load_fm (v := vi (ix a2.a1 ((v5 - 1).toNat))) rfl c22 rfl) rfl ?_
      refine RegD.run 1 [(58, vb (decide ((ix a2.a1 v5.toNat) ≤ (ix a2.a1 ((v5 - 1).toNat))))), (57, vi (ix a2.a1 ((v5 - 1).toNat))), (56, .fptr 1 (List.map vi a2.a1) ((v5 - 1).toNat) 0), (55, vi (v5 - 1)), (54, vi v5), (53, eS 1 vi a2.a1), (52, vi (ix a2.a1 v5.toNat)), (51, .fptr 1 (List.map vi a2.a1) v5.toNat 0), (50, vi v5), (49, eS 1 vi a2.a1), (0, eS 2 eWantedPart a0), (1, eS 2 eOfferedPart a1), (5, .ptr 0 0 0), (39, .agg [eS 1 vi a2.a0, eS 1 vi a2.a1]), (40, vi 1), (12, eS 1 vi a2.a1), (13, vi v5)] [some (.row 2 [.agg [eS 1 vi a2.a0, eS 1 vi a2.a1]]), none, none, none, none, none, none, none, none, none, none] (by kernel_rfl) ?_
      refine RegD.done rfl (by kernel_rfl) (S' := ⟨[(0, eS 2 eWantedPart a0), (1, eS 2 eOfferedPart a1), (5, .ptr 0 0 0), (39, .agg [eS 1 vi a2.a0, eS 1 vi a2.a1]), (40, vi 1), (12, eS 1 vi a2.a1), (13, vi v5), (58, vb (decide ((ix a2.a1 v5.toNat) ≤ (ix a2.a1 ((v5 - 1).toNat)))))], [some (.row 2 [.agg [eS 1 vi a2.a0, eS 1 vi a2.a1]])]⟩) (sc [0] (by decide) (by kernel_rfl) (.cons rfl .nil) rfl rfl) ?_
      refine TriE.cond (b := decide ((ix a2.a1 v5.toNat) ≤ (ix a2.a1 ((v5 - 1).toNat)))) rfl (fun c23 => ?_) (fun c23 => ?_)
      · have h := cond_t h c23
        refine sr [(6, vi 0), (7, vi 9)] [some (.row 2 [.agg [eS 1 vi a2.a0, eS 1 vi a2.a1]])] ?_
        refine TriE.ret ?_
        have h := Option.some.inj h
        subst h
        exact DoneS.ret (S' := ⟨[(6, vi 0), (7, vi 9)], []⟩) (sc [] (by decide) (by kernel_rfl) ObRen.nil rfl rfl) rfl rfl
      have h := cond_f h c23
      refine TriE.skip ?_
      refine TriE.regJ ?_
      refine rn 1 [(0, eS 2 eWantedPart a0), (1, eS 2 eOfferedPart a1), (5, .ptr 0 0 0), (39, .agg [eS 1 vi a2.a0, eS 1 vi a2.a1]), (40, vi 1), (12, eS 1 vi a2.a1), (47, vi v5)] [some (.row 2 [.agg [eS 1 vi a2.a0, eS 1 vi a2.a1]])] ?_
      obtain ⟨c24, h⟩ := chk_some h
      refine jv (vi (v5 + 1)) (cy (I0 48 (.bin .add false (.t 47) (.c (.p (.int .i64 1)))))) (r_add rfl rfl c24) rfl ?_
      refine jq 1 [(0, eS 2 eWantedPart a0), (1, eS 2 eOfferedPart a1), (5, .ptr 0 0 0), (39, .agg [eS 1 vi a2.a0, eS 1 vi a2.a1]), (40, vi 1), (12, eS 1 vi a2.a1), (13, vi (v5 + 1))] [some (.row 2 [.agg [eS 1 vi a2.a0, eS 1 vi a2.a1]])] ?_
      exact Vs.intro Sees.refl ⟨(v5 + 1), rfl, h⟩
    have h := cond_f h c17
    refine TriE.exit ?_
    exact Vs.intro sy ⟨(), rfl, h⟩
  intro k1 h
  refine TriE.block ?_
  refine sr [(0, eS 2 eWantedPart a0), (1, eS 2 eOfferedPart a1), (5, .ptr 0 0 0), (39, .agg [eS 1 vi a2.a0, eS 1 vi a2.a1]), (40, vi 0), (12, eS 1 vi a2.a0)] [some (.row 2 [.agg [eS 1 vi a2.a0, eS 1 vi a2.a1]]), some (.row 1 [vi (a0.length : Int)]), some (.row 1 [vi (a1.length : Int)])] ?_
  refine sr [(0, eS 2 eWantedPart a0), (1, eS 2 eOfferedPart a1), (5, .ptr 0 0 0), (39, .agg [eS 1 vi a2.a0, eS 1 vi a2.a1]), (40, vi 0), (12, eS 1 vi a2.a0), (13, vi 1)] [some (.row 2 [.agg [eS 1 vi a2.a0, eS 1 vi a2.a1]]), some (.row 1 [vi (a0.length : Int)]), some (.row 1 [vi (a1.length : Int)])] ?_
  refine TriE.block ?_
  refine TriE.sees (S' := ⟨[(0, eS 2 eWantedPart a0), (1, eS 2 eOfferedPart a1), (5, .ptr 0 0 0), (39, .agg [eS 1 vi a2.a0, eS 1 vi a2.a1]), (40, vi 0), (12, eS 1 vi a2.a0), (13, vi 1)], [some (.row 2 [.agg [eS 1 vi a2.a0, eS 1 vi a2.a1]])]⟩) (sc [0] (by decide) (by kernel_rfl) (.cons rfl .nil) rfl rfl) ?_
  refine TriE.loopN h (fun (v4 : Int) => St.mk [(0, eS 2 eWantedPart a0), (1, eS 2 eOfferedPart a1), (5, .ptr 0 0 0), (39, .agg [eS 1 vi a2.a0, eS 1 vi a2.a1]), (40, vi 0), (12, eS 1 vi a2.a0), (13, vi v4)] [some (.row 2 [.agg [eS 1 vi a2.a0, eS 1 vi a2.a1]])]) rfl ?_
  clear h
  rintro back v4 h
  dsimp only [restore_CheckCover_L1] at h
  refine TriE.seq ?_
  refine sj ?_
  refine rn 2 [(0, eS 2 eWantedPart a0), (1, eS 2 eOfferedPart a1), (5, .ptr 0 0 0), (39, .agg [eS 1 vi a2.a0, eS 1 vi a2.a1]), (40, vi 0), (12, eS 1 vi a2.a0), (13, vi v4), (43, vi v4), (44, eS 1 vi a2.a0)] [some (.row 2 [.agg [eS 1 vi a2.a0, eS 1 vi a2.a1]])] ?_
  refine jv (vi ((a2.a0.length : Nat) : Int)) (cy (I0 45 (.len 0 (.t 44)))) (ok_len_m rfl) rfl ?_
  refine jq 1 [(0, eS 2 eWantedPart a0), (1, eS 2 eOfferedPart a1), (5, .ptr 0 0 0), (39, .agg [eS 1 vi a2.a0, eS 1 vi a2.a1]), (40, vi 0), (12, eS 1 vi a2.a0), (13, vi v4), (46, vb (decide (v4 < ((a2.a0.length : Nat) : Int))))] [some (.row 2 [.agg [eS 1 vi a2.a0, eS 1 vi a2.a1]])] ?_
  refine TriE.cond (b := decide (v4 < ((a2.a0.length : Nat) : Int))) rfl (fun c8 => ?_) (fun c8 => ?_)
  · have h := cond_t h c8
    refine TriE.skip ?_
    refine TriE.seq ?_
    refine TriE.block ?_
    refine TriE.seq ?_
    refine TriE.sees (Sees.less (fr' := [(0, eS 2 eWantedPart a0), (1, eS 2 eOfferedPart a1), (5, .ptr 0 0 0), (39, .agg [eS 1 vi a2.a0, eS 1 vi a2.a1]), (40, vi 0), (12, eS 1 vi a2.a0), (13, vi v4)]) (.cons rfl (.cons rfl (.cons rfl (.cons rfl (.cons rfl (.cons rfl (.cons rfl .nil)))))))) ?_
    refine TriE.draw (by kernel_rfl) ?_
    refine RegD.run 2 [(50, vi v4), (49, eS 1 vi a2.a0), (0, eS 2 eWantedPart a0), (1, eS 2 eOfferedPart a1), (5, .ptr 0 0 0), (39, .agg [eS 1 vi a2.a0, eS 1 vi a2.a1]), (40, vi 0), (12, eS 1 vi a2.a0), (13, vi v4)] [some (.row 2 [.agg [eS 1 vi a2.a0, eS 1 vi a2.a1]]), none, none] (by kernel_rfl) ?_
    obtain ⟨c9, h⟩ := chk_some h
    refine dv (.fptr 1 (List.map vi a2.a0) v4.toNat 0) (cy (I0 51 (.iaddr 1 (.t 49) (.t 50)))) (ok_iaddr_m (j := v4.toNat) rfl rfl (inB_to c9) (inB_lt c9)) rfl ?_
    obtain ⟨c10, h⟩ := chk_some h
    refine dv (vi (ix a2.a0 v4.toNat)) (cy (I0 52 (.load false 1 (.t 51)))) (ok_load_fm (v := vi (ix a2.a0 v4.toNat)) rfl c10 rfl) rfl ?_
    refine RegD.run 2 [(54, vi v4), (53, eS 1 vi a2.a0), (52, vi (ix a2.a0 v4.toNat)), (51, .fptr 1 (List.map vi a2.a0) v4.toNat 0), (50, vi v4), (49, eS 1 vi a2.a0), (0, eS 2 eWantedPart a0), (1, eS 2 eOfferedPart a1), (5, .ptr 0 0 0), (39, .agg [eS 1 vi a2.a0, eS 1 vi a2.a1]), (40, vi 0), (12, eS 1 vi a2.a0), (13, vi v4)] [some (.row 2 [.agg [eS 1 vi a2.a0, eS 1 vi a2.a1]]), none, none, none, none, none, none] (by kernel_rfl) ?_
    obtain ⟨c11, h⟩ := chk_some h
    refine dv (vi (v4 - 1)) (cy (I0 55 (.bin .sub false (.t 54) (.c (.p (.int .i64 1)))))) (r_sub rfl rfl c11) rfl ?_
    obtain ⟨c12, h⟩ := chk_some h
    refine dv (.fptr 1 (List.map vi a2.a0) ((v4 - 1).toNat) 0) (cy (I0 56 (.iaddr 1 (.t 53) (.t 55)))) (ok_iaddr_m (j := (v4 - 1).toNat) rfl rfl (inB_to c12) (inB_lt c12)) rfl ?_
    obtain ⟨c13, h⟩ := chk_some h
    refine dv (vi (ix a2.a0 ((v4 - 1).toNat))) (cy (I0 57 (.load false 1 (.t 56)))) (ok_load_fm (v := vi (ix a2.a0 ((v4 - 1).toNat))) rfl c13 rfl) rfl ?_
    refine RegD.run 1 [(58, vb (decide ((ix a2.a0 v4.toNat) ≤ (ix a2.a0 ((v4 - 1).toNat))))), (57, vi (ix a2.a0 ((v4 - 1).toNat))), (56, .fptr 1 (List.map vi a2.a0) ((v4 - 1).toNat) 0), (55, vi (v4 - 1)), (54, vi v4), (53, eS 1 vi a2.a0), (52, vi (ix a2.a0 v4.toNat)), (51, .fptr 1 (List.map vi a2.a0) v4.toNat 0), (50, vi v4), (49, eS 1 vi a2.a0), (0, eS 2 eWantedPart a0), (1, eS 2 eOfferedPart a1), (5, .ptr 0 0 0), (39, .agg [eS 1 vi a2.a0, eS 1 vi a2.a1]), (40, vi 0), (12, eS 1 vi a2.a0), (13, vi v4)] [some (.row 2 [.agg [eS 1 vi a2.a0, eS 1 vi a2.a1]]), none, none, none, none, none, none, none, none, none, none] (by kernel_rfl) ?_
    refine RegD.done rfl (by kernel_rfl) (S' := ⟨[(0, eS 2 eWantedPart a0), (1, eS 2 eOfferedPart a1), (5, .ptr 0 0 0), (39, .agg [eS 1 vi a2.a0, eS 1 vi a2.a1]), (40, vi 0), (12, eS 1 vi a2.a0), (13, vi v4), (58, vb (decide ((ix a2.a0 v4.toNat) ≤ (ix a2.a0 ((v4 - 1).toNat)))))], [some (.row 2 [.agg [eS 1 vi a2.a0, eS 1 vi a2.a1]])]⟩) (sc [0] (by decide) (by kernel_rfl) (.cons rfl .nil) rfl rfl) ?_
    refine TriE.cond (b := decide ((ix a2.a0 v4.toNat) ≤ (ix a2.a0 ((v4 - 1).toNat)))) rfl (fun c14 => ?_) (fun c14 => ?_)
    · have h := cond_t h c14
      refine sr [(6, vi 0), (7, vi 9)] [some (.row 2 [.agg [eS 1 vi a2.a0, eS 1 vi a2.a1]])] ?_
      refine TriE.ret ?_
      have h := Option.some.inj h
      subst h
      exact DoneS.ret (S' := ⟨[(6, vi 0), (7, vi 9)], []⟩) (sc [] (by decide) (by kernel_rfl) ObRen.nil rfl rfl) rfl rfl
    have h := cond_f h c14
    refine TriE.skip ?_
    refine TriE.regJ ?_
    refine rn 1 [(0, eS 2 eWantedPart a0), (1, eS 2 eOfferedPart a1), (5, .ptr 0 0 0), (39, .agg [eS 1 vi a2.a0, eS 1 vi a2.a1]), (40, vi 0), (12, eS 1 vi a2.a0), (47, vi v4)] [some (.row 2 [.agg [eS 1 vi a2.a0, eS 1 vi a2.a1]])] ?_
    obtain ⟨c15, h⟩ := chk_some h
    refine jv (vi (v4 + 1)) (cy (I0 48 (.bin .add false (.t 47) (.c (.p (.int .i64 1)))))) (r_add rfl rfl c15) rfl ?_
    refine jq 1 [(0, eS 2 eWantedPart a0), (1, eS 2 eOfferedPart a1), (5, .ptr 0 0 0), (39, .agg [eS 1 vi a2.a0, eS 1 vi a2.a1]), (40, vi 0), (12, eS 1 vi a2.a0), (13, vi (v4 + 1))] [some (.row 2 [.agg [eS 1 vi a2.a0, eS 1 vi a2.a1]])] ?_
    exact Vs.intro Sees.refl ⟨(v4 + 1), rfl, h⟩
  have h := cond_f h c8
  refine TriE.exit ?_
  exact Vs.intro sy ⟨(), rfl, h⟩
theorem agrafferef08_CheckWanted_ok (n : Nat) (a0 : List WantedPart) (r : Int) (h : agrafferef08_CheckWanted n a0 = some r) : FnL Tryz.prog 128 [eS 2 eWantedPart a0] [] (vi r) [] := by
  dsimp only [agrafferef08_CheckWanted] at h
  refine FnL.ofS (ts := [2]) Tryz.call128 Tryz.func128 rfl rfl (Nat.le_of_ble_eq_true rfl) (Nat.le_of_ble_eq_true rfl) (fun j h => absurd h (Nat.not_lt_zero j)) ?_
  refine sr [(0, eS 2 eWantedPart a0)] [] ?_
  refine TriE.seq ?_
  refine sj ?_
  refine rn 1 [(0, eS 2 eWantedPart a0), (7, eS 2 eWantedPart a0)] [] ?_
  refine jv (vi (a0.length : Int)) (cy (I0 8 (.len 0 (.t 7)))) (ok_len_m rfl) rfl ?_
  refine jv (vb (decide (40 < a0.length))) (cy (I0 9 (.bin .gtr false (.t 8) (.c (.p (.int .i64 40)))))) (n_gtr (i := a0.length) (j := 40) rfl rfl) rfl ?_
  refine jp [(0, eS 2 eWantedPart a0), (9, vb (decide (40 < a0.length)))] ?_
  refine TriE.cond (b := decide (40 < a0.length)) rfl (fun c1 => ?_) (fun c1 => ?_)
  · have h := cond_t h c1
    refine sr [(2, vi 8)] [] ?_
    refine TriE.ret ?_
    have h := Option.some.inj h
    subst h
    exact DoneS.ret (S' := ⟨[(2, vi 8)], []⟩) Sees.refl rfl rfl
  have h := cond_f h c1
  refine TriE.skip ?_
  refine sr [(0, eS 2 eWantedPart a0), (3, .emp)] [] ?_
  refine TriE.seqK h (fun (_ : Unit) => St.mk [] []) ?_ ?_
  · rintro ⟨⟩ h
    refine sr [(2, vi 0)] [] ?_
    refine TriE.ret ?_
    have h := Option.some.inj h
    subst h
    exact DoneS.ret (S' := ⟨[(2, vi 0)], []⟩) Sees.refl rfl rfl
  intro k2 h
  refine sr [(0, eS 2 eWantedPart a0), (3, .emp), (4, vi 0)] [] ?_
  refine TriE.block ?_
  refine TriE.sees (S' := ⟨[(0, eS 2 eWantedPart a0), (3, .own 0 0 ([] : List Str).length), (4, vi 0)], [some (.row 1 (List.map vt ([] : List Str)))]⟩) (Sees.trans (Sees.co (fr' := [(0, eS 2 eWantedPart a0), (3, .own 0 0 0), (4, vi 0)]) (ob' := []) (.cons .same (.cons .own (.cons .same .nil))) ObCo.nil 1) sy) ?_
  refine TriE.loopN h (fun (t : (List Str) × Nat) => match t with | (v7, v8) => St.mk [(0, eS 2 eWantedPart a0), (3, .own 0 0 v7.length), (4, vi v8)] [some (.row 1 (List.map vt v7))]) rfl ?_
  clear h
  rintro back ⟨v7, v8⟩ h
  dsimp only [agrafferef08_CheckWanted_L2] at h
  refine TriE.seq ?_
  refine sj ?_
  refine rn 2 [(0, eS 2 eWantedPart a0), (3, .own 0 0 v7.length), (4, vi v8), (10, vi v8), (11, eS 2 eWantedPart a0)] [some (.row 1 (List.map vt v7))] ?_
  refine jv (vi (a0.length : Int)) (cy (I0 12 (.len 0 (.t 11)))) (ok_len_m rfl) rfl ?_
  refine jv (vb (decide (v8 < a0.length))) (cy (I0 13 (.bin .lss false (.t 10) (.t 12)))) (n_lss (i := v8) (j := a0.length) rfl rfl) rfl ?_
  refine jp [(0, eS 2 eWantedPart a0), (3, .own 0 0 v7.length), (4, vi v8), (13, vb (decide (v8 < a0.length)))] ?_
  refine TriE.cond (b := decide (v8 < a0.length)) rfl (fun c2 => ?_) (fun c2 => ?_)
  · have h := cond_t h c2
    refine TriE.skip ?_
    refine TriE.seqK h (fun (_ : Unit) => St.mk [(0, eS 2 eWantedPart a0), (4, vi v8), (3, .own 0 0 ((v7 ++ ([(ix a0 v8).Name] : List Str)).length))] [some (.row 1 (List.map vt (v7 ++ ([(ix a0 v8).Name] : List Str))))]) ?_ ?_
    · rintro ⟨⟩ h
      refine TriE.regJ ?_
      refine rn 1 [(0, eS 2 eWantedPart a0), (3, .own 0 0 ((v7 ++ ([(ix a0 v8).Name] : List Str)).length)), (14, vi v8)] [some (.row 1 (List.map vt (v7 ++ ([(ix a0 v8).Name] : List Str))))] ?_
      obtain ⟨c11, h⟩ := chk_some h
      refine jv (vi ((v8 + 1 : Nat) : Int)) (cy (I0 15 (.bin .add false (.t 14) (.c (.p (.int .i64 1)))))) (r_addn (i := v8) (j := 1) rfl rfl c11) rfl ?_
      refine jq 1 [(0, eS 2 eWantedPart a0), (3, .own 0 0 ((v7 ++ ([(ix a0 v8).Name] : List Str)).length)), (4, vi ((v8 + 1 : Nat) : Int))] [some (.row 1 (List.map vt (v7 ++ ([(ix a0 v8).Name] : List Str))))] ?_
      exact Vs.intro sy ⟨((v7 ++ ([(ix a0 v8).Name] : List Str)), v8 + 1), rfl, h⟩
    intro k1 h
    refine TriE.block ?_
    refine TriE.seq ?_
    refine sj ?_
    refine rn 2 [(0, eS 2 eWantedPart a0), (3, .own 0 0 v7.length), (4, vi v8), (16, eS 2 eWantedPart a0), (17, vi v8)] [some (.row 1 (List.map vt v7))] ?_
    refine jv (.fptr 2 (List.map eWantedPart a0) v8 0) (cy (I0 18 (.iaddr 2 (.t 16) (.t 17)))) (ok_iaddr_m (j := v8) rfl rfl rfl c2) rfl ?_
    refine rn 1 [(0, eS 2 eWantedPart a0), (3, .own 0 0 v7.length), (4, vi v8), (19, .fptr 2 (List.map eWantedPart a0) v8 0)] [some (.row 1 (List.map vt v7))] ?_
    refine jv (vt ((ix a0 v8).Name)) (cy (I0 20 (.load false 1 (.t 19)))) (ok_load_fm (v := vt ((ix a0 v8).Name)) rfl c2 rfl) rfl ?_
    obtain ⟨y9, hy9, h⟩ := bind_some h
    refine RegJ.op (Op1.call (y' := vb y9) (obx := []) (oby := []) (ob2 := [some (.row 1 (List.map vt v7))]) _ _ (cy (I0 21 (.call 92 [(.t 20)]))) rfl (agraffebase_IsName_ok n ((ix a0 v8).Name) y9 hy9) [] (by kernel_rfl) (.cons rfl (.cons rfl .nil)) (by kernel_rfl) (by kernel_rfl) ObsRen.nil (by kernel_rfl) ObsRen.nil (by kernel_rfl)) ?_
    refine jq 1 [(0, eS 2 eWantedPart a0), (3, .own 0 0 v7.length), (4, vi v8), (22, vb (!y9))] [some (.row 1 (List.map vt v7))] ?_
    refine TriE.cond (b := !y9) rfl (fun c3 => ?_) (fun c3 => ?_)
    · have h := cond_t h c3
      refine sr [(2, vi 4)] [some (.row 1 (List.map vt v7))] ?_
      refine TriE.ret ?_
      have h := Option.some.inj h
      subst h
      exact DoneS.ret (S' := ⟨[(2, vi 4)], []⟩) (sc [] (by decide) (by kernel_rfl) ObRen.nil rfl rfl) rfl rfl
    have h := cond_f h c3
    refine TriE.skip ?_
    refine TriE.seq ?_
    refine sj ?_
    refine rn 3 [(0, eS 2 eWantedPart a0), (3, .own 0 0 v7.length), (4, vi v8), (23, .own 0 0 v7.length), (24, eS 2 eWantedPart a0), (25, vi v8)] [some (.row 1 (List.map vt v7))] ?_
    refine jv (.fptr 2 (List.map eWantedPart a0) v8 0) (cy (I0 26 (.iaddr 2 (.t 24) (.t 25)))) (ok_iaddr_m (j := v8) rfl rfl rfl c2) rfl ?_
    refine rn 1 [(0, eS 2 eWantedPart a0), (3, .own 0 0 v7.length), (4, vi v8), (23, .own 0 0 v7.length), (27, .fptr 2 (List.map eWantedPart a0) v8 0)] [some (.row 1 (List.map vt v7))] ?_
    refine jv (vt ((ix a0 v8).Name)) (cy (I0 28 (.load false 1 (.t 27)))) (ok_load_fm (v := vt ((ix a0 v8).Name)) rfl c2 rfl) rfl ?_
    obtain ⟨y10, hy10, h⟩ := bind_some h
    refine RegJ.op (Op1.call (y' := vb y10) (obx := [some (.row 1 (List.map vt v7))]) (oby := [some (.row 1 (List.map vt v7))]) (ob2 := [some (.row 1 (List.map vt v7))]) _ _ (cy (I0 29 (.call 81 [(.t 23), (.t 28)]))) rfl (agraffebase_HasText_2_ok n v7 ((ix a0 v8).Name) y10 hy10) [0] (by kernel_rfl) (.cons rfl (.cons rfl (.cons rfl .nil))) (by kernel_rfl) (by kernel_rfl) (.same (row_ren vt_frz _ _ _) .nil) (by kernel_rfl) (.same (row_ren vt_frz _ _ _) .nil) (by kernel_rfl)) ?_
    refine jp [(0, eS 2 eWantedPart a0), (3, .own 0 0 v7.length), (4, vi v8), (29, vb y10)] ?_
    refine TriE.cond (b := y10) rfl (fun c4 => ?_) (fun c4 => ?_)
    · have h := cond_t h c4
      refine sr [(2, vi 5)] [some (.row 1 (List.map vt v7))] ?_
      refine TriE.ret ?_
      have h := Option.some.inj h
      subst h
      exact DoneS.ret (S' := ⟨[(2, vi 5)], []⟩) (sc [] (by decide) (by kernel_rfl) ObRen.nil rfl rfl) rfl rfl
    have h := cond_f h c4
    refine TriE.skip ?_
    refine sj ?_
    refine rn 3 [(0, eS 2 eWantedPart a0), (4, vi v8), (30, .own 0 0 v7.length), (31, eS 2 eWantedPart a0), (32, vi v8)] [some (.row 1 (List.map vt v7))] ?_
    refine jv (.fptr 2 (List.map eWantedPart a0) v8 0) (cy (I0 33 (.iaddr 2 (.t 31) (.t 32)))) (ok_iaddr_m (j := v8) rfl rfl rfl c2) rfl ?_
    refine rn 1 [(0, eS 2 eWantedPart a0), (4, vi v8), (30, .own 0 0 v7.length), (34, .fptr 2 (List.map eWantedPart a0) v8 0)] [some (.row 1 (List.map vt v7))] ?_
    refine jv (vt ((ix a0 v8).Name)) (cy (I0 35 (.load false 1 (.t 34)))) (ok_load_fm (v := vt ((ix a0 v8).Name)) rfl c2 rfl) rfl ?_
    refine rn 1 [(0, eS 2 eWantedPart a0), (4, vi v8), (30, .own 0 0 v7.length), (36, .own 1 0 1)] [some (.row 1 (List.map vt v7)), some (.row 1 [vt ((ix a0 v8).Name)])] ?_
    obtain ⟨c5, h⟩ := chk_some h
    refine je (.own 2 0 ((v7 ++ ([(ix a0 v8).Name] : List Str)).length)) [none, some (.row 1 [vt ((ix a0 v8).Name)]), some (.row 1 (List.map vt (v7 ++ ([(ix a0 v8).Name] : List Str))))] (cy (I0 37 (.app 1 16 (.t 30) (.t 36)))) (ok_app_own (l := v7) (l2 := ([(ix a0 v8).Name] : List Str)) (e := vt) (u := .own 1 0 1) rfl rfl rfl rfl rfl c5) rfl rfl rfl ?_
    refine jq 1 [(0, eS 2 eWantedPart a0), (4, vi v8), (3, .own 2 0 ((v7 ++ ([(ix a0 v8).Name] : List Str)).length))] [none, some (.row 1 [vt ((ix a0 v8).Name)]), some (.row 1 (List.map vt (v7 ++ ([(ix a0 v8).Name] : List Str))))] ?_
    refine TriE.seq ?_
    refine sj ?_
    refine rn 2 [(0, eS 2 eWantedPart a0), (4, vi v8), (3, .own 2 0 ((v7 ++ ([(ix a0 v8).Name] : List Str)).length)), (38, eS 2 eWantedPart a0), (39, vi v8)] [none, some (.row 1 [vt ((ix a0 v8).Name)]), some (.row 1 (List.map vt (v7 ++ ([(ix a0 v8).Name] : List Str))))] ?_
    refine jv (.fptr 2 (List.map eWantedPart a0) v8 0) (cy (I0 40 (.iaddr 2 (.t 38) (.t 39)))) (ok_iaddr_m (j := v8) rfl rfl rfl c2) rfl ?_
    refine rn 1 [(0, eS 2 eWantedPart a0), (4, vi v8), (3, .own 2 0 ((v7 ++ ([(ix a0 v8).Name] : List Str)).length)), (41, .fptr 2 (List.map eWantedPart a0) v8 1)] [none, some (.row 1 [vt ((ix a0 v8).Name)]), some (.row 1 (List.map vt (v7 ++ ([(ix a0 v8).Name] : List Str))))] ?_
    refine jv (eS 2 eRange ((ix a0 v8).Ranges)) (cy (I0 42 (.load false 1 (.t 41)))) (ok_load_fm (v := eS 2 eRange ((ix a0 v8).Ranges)) rfl c2 rfl) rfl ?_
    refine jv (vi ((((ix a0 v8).Ranges).length : Nat) : Int)) (cy (I0 43 (.len 0 (.t 42)))) (ok_len_m rfl) rfl ?_
    obtain ⟨y11, hy11, h⟩ := bind_some h
    refine RegJ.op (Op1.call (y' := vb ((decide (1 ≤ ((((ix a0 v8).Ranges).length : Nat) : Int))) && (decide (((((ix a0 v8).Ranges).length : Nat) : Int) ≤ 6)))) (obx := []) (oby := []) (ob2 := [none, some (.row 1 [vt ((ix a0 v8).Name)]), some (.row 1 (List.map vt (v7 ++ ([(ix a0 v8).Name] : List Str))))]) _ _ (cy (I0 44 (.call 93 [(.t 43), (.c (.p (.int .i64 1))), (.c (.p (.int .i64 6)))]))) rfl (agraffebase_Within_ok n ((((ix a0 v8).Ranges).length : Nat) : Int) 1 6 y11 hy11) [] (by kernel_rfl) (.cons rfl (.cons rfl (.cons rfl (.cons rfl .nil)))) (by kernel_rfl) (by kernel_rfl) ObsRen.nil (by kernel_rfl) ObsRen.nil (by kernel_rfl)) ?_
    refine jq 1 [(0, eS 2 eWantedPart a0), (4, vi v8), (3, .own 2 0 ((v7 ++ ([(ix a0 v8).Name] : List Str)).length)), (45, vb (!((decide (1 ≤ ((((ix a0 v8).Ranges).length : Nat) : Int))) && (decide (((((ix a0 v8).Ranges).length : Nat) : Int) ≤ 6)))))] [none, some (.row 1 [vt ((ix a0 v8).Name)]), some (.row 1 (List.map vt (v7 ++ ([(ix a0 v8).Name] : List Str))))] ?_
    refine TriE.cond (b := !((decide (1 ≤ ((((ix a0 v8).Ranges).length : Nat) : Int))) && (decide (((((ix a0 v8).Ranges).length : Nat) : Int) ≤ 6)))) rfl (fun c6 => ?_) (fun c6 => ?_)
    · have h := cond_t h c6
      refine sr [(2, vi 10)] [none, some (.row 1 [vt ((ix a0 v8).Name)]), some (.row 1 (List.map vt (v7 ++ ([(ix a0 v8).Name] : List Str))))] ?_
      refine TriE.ret ?_
      have h := Option.some.inj h
      subst h
      exact DoneS.ret (S' := ⟨[(2, vi 10)], []⟩) (sc [] (by decide) (by kernel_rfl) ObRen.nil rfl rfl) rfl rfl
    have h := cond_f h c6
    refine TriE.skip ?_
    refine sr [(0, eS 2 eWantedPart a0), (4, vi v8), (3, .own 2 0 ((v7 ++ ([(ix a0 v8).Name] : List Str)).length)), (5, vi 0)] [none, some (.row 1 [vt ((ix a0 v8).Name)]), some (.row 1 (List.map vt (v7 ++ ([(ix a0 v8).Name] : List Str))))] ?_
    refine TriE.block ?_
    refine TriE.sees (S' := ⟨[(0, eS 2 eWantedPart a0), (4, vi v8), (3, .own 0 0 ((v7 ++ ([(ix a0 v8).Name] : List Str)).length)), (5, vi 0)], [some (.row 1 (List.map vt (v7 ++ ([(ix a0 v8).Name] : List Str))))]⟩) (sc [2] (by decide) (by kernel_rfl) (obRen_row vt_frz rfl .nil) rfl rfl) ?_
    refine TriE.loopN h (fun (v13 : Nat) => St.mk [(0, eS 2 eWantedPart a0), (4, vi v8), (3, .own 0 0 ((v7 ++ ([(ix a0 v8).Name] : List Str)).length)), (5, vi v13)] [some (.row 1 (List.map vt (v7 ++ ([(ix a0 v8).Name] : List Str))))]) rfl ?_
    clear h
    rintro back v13 h
    dsimp only [agrafferef08_CheckWanted_L1] at h
    refine TriE.seq ?_
    refine sj ?_
    refine rn 3 [(0, eS 2 eWantedPart a0), (4, vi v8), (3, .own 0 0 ((v7 ++ ([(ix a0 v8).Name] : List Str)).length)), (5, vi v13), (46, vi v13), (47, eS 2 eWantedPart a0), (48, vi v8)] [some (.row 1 (List.map vt (v7 ++ ([(ix a0 v8).Name] : List Str))))] ?_
    refine jv (.fptr 2 (List.map eWantedPart a0) v8 0) (cy (I0 49 (.iaddr 2 (.t 47) (.t 48)))) (ok_iaddr_m (j := v8) rfl rfl rfl c2) rfl ?_
    refine rn 1 [(0, eS 2 eWantedPart a0), (4, vi v8), (3, .own 0 0 ((v7 ++ ([(ix a0 v8).Name] : List Str)).length)), (5, vi v13), (46, vi v13), (50, .fptr 2 (List.map eWantedPart a0) v8 1)] [some (.row 1 (List.map vt (v7 ++ ([(ix a0 v8).Name] : List Str))))] ?_
    refine jv (eS 2 eRange ((ix a0 v8).Ranges)) (cy (I0 51 (.load false 1 (.t 50)))) (ok_load_fm (v := eS 2 eRange ((ix a0 v8).Ranges)) rfl c2 rfl) rfl ?_
    refine jv (vi ((((ix a0 v8).Ranges).length : Nat) : Int)) (cy (I0 52 (.len 0 (.t 51)))) (ok_len_m rfl) rfl ?_
    refine jv (vb (decide (v13 < (((ix a0 v8).Ranges).length)))) (cy (I0 53 (.bin .lss false (.t 46) (.t 52)))) (n_lss (i := v13) (j := ((ix a0 v8).Ranges).length) rfl rfl) rfl ?_
    refine jp [(0, eS 2 eWantedPart a0), (4, vi v8), (3, .own 0 0 ((v7 ++ ([(ix a0 v8).Name] : List Str)).length)), (5, vi v13), (53, vb (decide (v13 < (((ix a0 v8).Ranges).length))))] ?_
    refine TriE.cond (b := decide (v13 < (((ix a0 v8).Ranges).length))) rfl (fun c7 => ?_) (fun c7 => ?_)
    · have h := cond_t h c7
      refine TriE.skip ?_
      refine TriE.seq ?_
      refine TriE.block ?_
      refine sj ?_
      refine rn 2 [(0, eS 2 eWantedPart a0), (4, vi v8), (3, .own 0 0 ((v7 ++ ([(ix a0 v8).Name] : List Str)).length)), (5, vi v13), (56, eS 2 eWantedPart a0), (57, vi v8)] [some (.row 1 (List.map vt (v7 ++ ([(ix a0 v8).Name] : List Str))))] ?_
      refine jv (.fptr 2 (List.map eWantedPart a0) v8 0) (cy (I0 58 (.iaddr 2 (.t 56) (.t 57)))) (ok_iaddr_m (j := v8) rfl rfl rfl c2) rfl ?_
      refine rn 1 [(0, eS 2 eWantedPart a0), (4, vi v8), (3, .own 0 0 ((v7 ++ ([(ix a0 v8).Name] : List Str)).length)), (5, vi v13), (59, .fptr 2 (List.map eWantedPart a0) v8 1)] [some (.row 1 (List.map vt (v7 ++ ([(ix a0 v8).Name] : List Str))))] ?_
      refine jv (eS 2 eRange ((ix a0 v8).Ranges)) (cy (I0 60 (.load false 1 (.t 59)))) (ok_load_fm (v := eS 2 eRange ((ix a0 v8).Ranges)) rfl c2 rfl) rfl ?_
      refine rn 1 [(0, eS 2 eWantedPart a0), (4, vi v8), (3, .own 0 0 ((v7 ++ ([(ix a0 v8).Name] : List Str)).length)), (5, vi v13), (60, eS 2 eRange ((ix a0 v8).Ranges)), (61, vi v13)] [some (.row 1 (List.map vt (v7 ++ ([(ix a0 v8).Name] : List Str))))] ?_
      obtain ⟨c8, h⟩ := chk_some h
      refine jv (.fptr 2 (List.map eRange ((ix a0 v8).Ranges)) v13 0) (cy (I0 62 (.iaddr 2 (.t 60) (.t 61)))) (ok_iaddr_m (j := v13) rfl rfl rfl c8) rfl ?_
      refine jv (.agg [vi ((ix ((ix a0 v8).Ranges) v13).Lo), vi ((ix ((ix a0 v8).Ranges) v13).Hi)]) (cy (I0 63 (.load true 2 (.t 62)))) (ok_load_fm (v := .agg [vi ((ix ((ix a0 v8).Ranges) v13).Lo), vi ((ix ((ix a0 v8).Ranges) v13).Hi)]) rfl c8 rfl) rfl ?_
      refine jq 2 [(0, eS 2 eWantedPart a0), (4, vi v8), (3, .own 0 0 ((v7 ++ ([(ix a0 v8).Name] : List Str)).length)), (5, vi v13), (6, .ptr 1 0 0)] [some (.row 1 (List.map vt (v7 ++ ([(ix a0 v8).Name] : List Str)))), some (.row 2 [.agg [vi ((ix ((ix a0 v8).Ranges) v13).Lo), vi ((ix ((ix a0 v8).Ranges) v13).Hi)]])] ?_
      refine sj ?_
      refine rn 4 [(0, eS 2 eWantedPart a0), (4, vi v8), (3, .own 0 0 ((v7 ++ ([(ix a0 v8).Name] : List Str)).length)), (5, vi v13), (6, .ptr 1 0 0), (65, vi ((ix ((ix a0 v8).Ranges) v13).Lo)), (67, vi ((ix ((ix a0 v8).Ranges) v13).Hi))] [some (.row 1 (List.map vt (v7 ++ ([(ix a0 v8).Name] : List Str)))), some (.row 2 [.agg [vi ((ix ((ix a0 v8).Ranges) v13).Lo), vi ((ix ((ix a0 v8).Ranges) v13).Hi)]])] ?_
      obtain ⟨y14, hy14, h⟩ := bind_some h
      refine RegJ.op (Op1.call (y' := vb ((decide (0 ≤ ((ix ((ix a0 v8).Ranges) v13).Lo))) && (decide (((ix ((ix a0 v8).Ranges) v13).Lo) ≤ ((ix ((ix a0 v8).Ranges) v13).Hi))))) (obx := []) (oby := []) (ob2 := [some (.row 1 (List.map vt (v7 ++ ([(ix a0 v8).Name] : List Str)))), some (.row 2 [.agg [vi ((ix ((ix a0 v8).Ranges) v13).Lo), vi ((ix ((ix a0 v8).Ranges) v13).Hi)]])]) _ _ (cy (I0 68 (.call 93 [(.t 65), (.c (.p (.int .i64 0))), (.t 67)]))) rfl (agraffebase_Within_ok n ((ix ((ix a0 v8).Ranges) v13).Lo) 0 ((ix ((ix a0 v8).Ranges) v13).Hi) y14 hy14) [] (by kernel_rfl) (.cons rfl (.cons rfl (.cons rfl (.cons rfl .nil)))) (by kernel_rfl) (by kernel_rfl) ObsRen.nil (by kernel_rfl) ObsRen.nil (by kernel_rfl)) ?_
      refine rn 2 [(0, eS 2 eWantedPart a0), (4, vi v8), (3, .own 0 0 ((v7 ++ ([(ix a0 v8).Name] : List Str)).length)), (5, vi v13), (6, .ptr 1 0 0), (70, vb (!((decide (0 ≤ ((ix ((ix a0 v8).Ranges) v13).Lo))) && (decide (((ix ((ix a0 v8).Ranges) v13).Lo) ≤ ((ix ((ix a0 v8).Ranges) v13).Hi))))))] [some (.row 1 (List.map vt (v7 ++ ([(ix a0 v8).Name] : List Str)))), some (.row 2 [.agg [vi ((ix ((ix a0 v8).Ranges) v13).Lo), vi ((ix ((ix a0 v8).Ranges) v13).Hi)]])] ?_
      refine RegJ.op (Op1.valk (v := .ptr 1 0 1) _ _ (cy (IG 71 (.faddr 1 (.t 6)) 70 false)) rfl (by kernel_rfl) (fun hg => (.cons rfl .nil))) ?_
      refine RegJ.op (Op1.valk (v := vi ((ix ((ix a0 v8).Ranges) v13).Hi)) _ _ (cy (IG 72 (.load false 1 (.t 71)) 70 false)) rfl (by kernel_rfl) (fun hg => (.cons hg .nil))) ?_
      refine RegJ.op (Op1.valk (v := vb (decide ((1000000 : Int) < ((ix ((ix a0 v8).Ranges) v13).Hi)))) _ _ (cy (IG 73 (.bin .gtr false (.t 72) (.c (.p (.int .i64 1000000)))) 70 false)) rfl (by kernel_rfl) (fun hg => (.cons hg (.cons rfl .nil)))) ?_
      refine RegJ.op (Op1.or (cy (I0 74 (.pick (.t 70) (.c (.p (.bool true))) (.t 73)))) rfl rfl (by first | exact hokO1 | exact hokO0 | simp)) ?_
      refine jp [(0, eS 2 eWantedPart a0), (4, vi v8), (3, .own 0 0 ((v7 ++ ([(ix a0 v8).Name] : List Str)).length)), (5, vi v13), (74, vb ((!((decide (0 ≤ ((ix ((ix a0 v8).Ranges) v13).Lo))) && (decide (((ix ((ix a0 v8).Ranges) v13).Lo) ≤ ((ix ((ix a0 v8).Ranges) v13).Hi))))) || (decide ((1000000 : Int) < ((ix ((ix a0 v8).Ranges) v13).Hi)))))] ?_
      refine TriE.cond (b := (!((decide (0 ≤ ((ix ((ix a0 v8).Ranges) v13).Lo))) && (decide (((ix ((ix a0 v8).Ranges) v13).Lo) ≤ ((ix ((ix a0 v8).Ranges) v13).Hi))))) || (decide ((1000000 : Int) < ((ix ((ix a0 v8).Ranges) v13).Hi)))) rfl (fun c9 => ?_) (fun c9 => ?_)
      · have h := cond_t h c9
        refine sr [(2, vi 2)] [some (.row 1 (List.map vt (v7 ++ ([(ix a0 v8).Name] : List Str)))), some (.row 2 [.agg [vi ((ix ((ix a0 v8).Ranges) v13).Lo), vi ((ix ((ix a0 v8).Ranges) v13).Hi)]])] ?_
        refine TriE.ret ?_
        have h := Option.some.inj h
        subst h
        exact DoneS.ret (S' := ⟨[(2, vi 2)], []⟩) (sc [] (by decide) (by kernel_rfl) ObRen.nil rfl rfl) rfl rfl
      have h := cond_f h c9
      refine TriE.skip ?_
      refine TriE.regJ ?_
      refine rn 1 [(0, eS 2 eWantedPart a0), (4, vi v8), (3, .own 0 0 ((v7 ++ ([(ix a0 v8).Name] : List Str)).length)), (54, vi v13)] [some (.row 1 (List.map vt (v7 ++ ([(ix a0 v8).Name] : List Str)))), some (.row 2 [.agg [vi ((ix ((ix a0 v8).Ranges) v13).Lo), vi ((ix ((ix a0 v8).Ranges) v13).Hi)]])] ?_
      obtain ⟨c10, h⟩ := chk_some h
      refine jv (vi ((v13 + 1 : Nat) : Int)) (cy (I0 55 (.bin .add false (.t 54) (.c (.p (.int .i64 1)))))) (r_addn (i := v13) (j := 1) rfl rfl c10) rfl ?_
      refine jq 1 [(0, eS 2 eWantedPart a0), (4, vi v8), (3, .own 0 0 ((v7 ++ ([(ix a0 v8).Name] : List Str)).length)), (5, vi ((v13 + 1 : Nat) : Int))] [some (.row 1 (List.map vt (v7 ++ ([(ix a0 v8).Name] : List Str)))), some (.row 2 [.agg [vi ((ix ((ix a0 v8).Ranges) v13).Lo), vi ((ix ((ix a0 v8).Ranges) v13).Hi)]])] ?_
      exact Vs.intro (sc [0] (by decide) (by kernel_rfl) (obRen_row vt_frz rfl .nil) rfl rfl) ⟨(v13 + 1), rfl, h⟩
    have h := cond_f h c7
    refine TriE.exit ?_
    exact Vs.intro sy ⟨(), rfl, h⟩
  have h := cond_f h c2
  refine TriE.exit ?_
  exact Vs.intro (sc [] (by decide) (by kernel_rfl) ObRen.nil rfl rfl) ⟨(), rfl, h⟩
theorem agrafferef08_CheckOffered_ok (n : Nat) (a0 : List OfferedPart) (r : Int) (h : agrafferef08_CheckOffered n a0 = some r) : FnL Tryz.prog 129 [eS 2 eOfferedPart a0] [] (vi r) [] := by
  dsimp only [agrafferef08_CheckOffered] at h
  refine FnL.ofS (ts := [2]) Tryz.call129 Tryz.func129 rfl rfl (Nat.le_of_ble_eq_true rfl) (Nat.le_of_ble_eq_true rfl) (fun j h => absurd h (Nat.not_lt_zero j)) ?_
  refine sr [(0, eS 2 eOfferedPart a0)] [] ?_
  refine TriE.seq ?_
  refine sj ?_
  refine rn 1 [(0, eS 2 eOfferedPart a0), (6, eS 2 eOfferedPart a0)] [] ?_
  refine jv (vi (a0.length : Int)) (cy (I0 7 (.len 0 (.t 6)))) (ok_len_m rfl) rfl ?_
  refine jv (vb (decide (40 < a0.length))) (cy (I0 8 (.bin .gtr false (.t 7) (.c (.p (.int .i64 40)))))) (n_gtr (i := a0.length) (j := 40) rfl rfl) rfl ?_
  refine jp [(0, eS 2 eOfferedPart a0), (8, vb (decide (40 < a0.length)))] ?_
  refine TriE.cond (b := decide (40 < a0.length)) rfl (fun c1 => ?_) (fun c1 => ?_)
  · have h := cond_t h c1
    refine sr [(2, vi 8)] [] ?_
    refine TriE.ret ?_
    have h := Option.some.inj h
    subst h
    exact DoneS.ret (S' := ⟨[(2, vi 8)], []⟩) Sees.refl rfl rfl
  have h := cond_f h c1
  refine TriE.skip ?_
  refine sr [(0, eS 2 eOfferedPart a0), (3, .emp)] [] ?_
  refine TriE.seqK h (fun (_ : Unit) => St.mk [] []) ?_ ?_
  · rintro ⟨⟩ h
    refine sr [(2, vi 0)] [] ?_
    refine TriE.ret ?_
    have h := Option.some.inj h
    subst h
    exact DoneS.ret (S' := ⟨[(2, vi 0)], []⟩) Sees.refl rfl rfl
  intro k2 h
  refine sr [(0, eS 2 eOfferedPart a0), (3, .emp), (4, vi 0)] [] ?_
  refine TriE.block ?_
  refine TriE.sees (S' := ⟨[(0, eS 2 eOfferedPart a0), (3, .own 0 0 ([] : List Str).length), (4, vi 0)], [some (.row 1 (List.map vt ([] : List Str)))]⟩) (Sees.trans (Sees.co (fr' := [(0, eS 2 eOfferedPart a0), (3, .own 0 0 0), (4, vi 0)]) (ob' := []) (.cons .same (.cons .own (.cons .same .nil))) ObCo.nil 1) sy) ?_
  refine TriE.loopN h (fun (t : (List Str) × Nat) => match t with | (v7, v8) => St.mk [(0, eS 2 eOfferedPart a0), (3, .own 0 0 v7.length), (4, vi v8)] [some (.row 1 (List.map vt v7))]) rfl ?_
  clear h
  rintro back ⟨v7, v8⟩ h
  dsimp only [agrafferef08_CheckOffered_L2] at h
  refine TriE.seq ?_
  refine sj ?_
  refine rn 2 [(0, eS 2 eOfferedPart a0), (3, .own 0 0 v7.length), (4, vi v8), (9, vi v8), (10, eS 2 eOfferedPart a0)] [some (.row 1 (List.map vt v7))] ?_
  refine jv (vi (a0.length : Int)) (cy (I0 11 (.len 0 (.t 10)))) (ok_len_m rfl) rfl ?_
  refine jv (vb (decide (v8 < a0.length))) (cy (I0 12 (.bin .lss false (.t 9) (.t 11)))) (n_lss (i := v8) (j := a0.length) rfl rfl) rfl ?_
  refine jp [(0, eS 2 eOfferedPart a0), (3, .own 0 0 v7.length), (4, vi v8), (12, vb (decide (v8 < a0.length)))] ?_
  refine TriE.cond (b := decide (v8 < a0.length)) rfl (fun c2 => ?_) (fun c2 => ?_)
  · have h := cond_t h c2
    refine TriE.skip ?_
    refine TriE.seqK h (fun (_ : Unit) => St.mk [(0, eS 2 eOfferedPart a0), (4, vi v8), (3, .own 0 0 ((v7 ++ ([(ix a0 v8).Name] : List Str)).length))] [some (.row 1 (List.map vt (v7 ++ ([(ix a0 v8).Name] : List Str))))]) ?_ ?_
    · rintro ⟨⟩ h
      refine TriE.regJ ?_
      refine rn 1 [(0, eS 2 eOfferedPart a0), (3, .own 0 0 ((v7 ++ ([(ix a0 v8).Name] : List Str)).length)), (13, vi v8)] [some (.row 1 (List.map vt (v7 ++ ([(ix a0 v8).Name] : List Str))))] ?_
      obtain ⟨c11, h⟩ := chk_some h
      refine jv (vi ((v8 + 1 : Nat) : Int)) (cy (I0 14 (.bin .add false (.t 13) (.c (.p (.int .i64 1)))))) (r_addn (i := v8) (j := 1) rfl rfl c11) rfl ?_
      refine jq 1 [(0, eS 2 eOfferedPart a0), (3, .own 0 0 ((v7 ++ ([(ix a0 v8).Name] : List Str)).length)), (4, vi ((v8 + 1 : Nat) : Int))] [some (.row 1 (List.map vt (v7 ++ ([(ix a0 v8).Name] : List Str))))] ?_
      exact Vs.intro sy ⟨((v7 ++ ([(ix a0 v8).Name] : List Str)), v8 + 1), rfl, h⟩
    intro k1 h
    refine TriE.block ?_
    refine TriE.seq ?_
    refine sj ?_
    refine rn 2 [(0, eS 2 eOfferedPart a0), (3, .own 0 0 v7.length), (4, vi v8), (15, eS 2 eOfferedPart a0), (16, vi v8)] [some (.row 1 (List.map vt v7))] ?_
    refine jv (.fptr 2 (List.map eOfferedPart a0) v8 0) (cy (I0 17 (.iaddr 2 (.t 15) (.t 16)))) (ok_iaddr_m (j := v8) rfl rfl rfl c2) rfl ?_
    refine rn 1 [(0, eS 2 eOfferedPart a0), (3, .own 0 0 v7.length), (4, vi v8), (18, .fptr 2 (List.map eOfferedPart a0) v8 0)] [some (.row 1 (List.map vt v7))] ?_
    refine jv (vt ((ix a0 v8).Name)) (cy (I0 19 (.load false 1 (.t 18)))) (ok_load_fm (v := vt ((ix a0 v8).Name)) rfl c2 rfl) rfl ?_
    obtain ⟨y9, hy9, h⟩ := bind_some h
    refine RegJ.op (Op1.call (y' := vb y9) (obx := []) (oby := []) (ob2 := [some (.row 1 (List.map vt v7))]) _ _ (cy (I0 20 (.call 92 [(.t 19)]))) rfl (agraffebase_IsName_ok n ((ix a0 v8).Name) y9 hy9) [] (by kernel_rfl) (.cons rfl (.cons rfl .nil)) (by kernel_rfl) (by kernel_rfl) ObsRen.nil (by kernel_rfl) ObsRen.nil (by kernel_rfl)) ?_
    refine jq 1 [(0, eS 2 eOfferedPart a0), (3, .own 0 0 v7.length), (4, vi v8), (21, vb (!y9))] [some (.row 1 (List.map vt v7))] ?_
    refine TriE.cond (b := !y9) rfl (fun c3 => ?_) (fun c3 => ?_)
    · have h := cond_t h c3
      refine sr [(2, vi 4)] [some (.row 1 (List.map vt v7))] ?_
      refine TriE.ret ?_
      have h := Option.some.inj h
      subst h
      exact DoneS.ret (S' := ⟨[(2, vi 4)], []⟩) (sc [] (by decide) (by kernel_rfl) ObRen.nil rfl rfl) rfl rfl
    have h := cond_f h c3
    refine TriE.skip ?_
    refine TriE.seq ?_
    refine sj ?_
    refine rn 3 [(0, eS 2 eOfferedPart a0), (3, .own 0 0 v7.length), (4, vi v8), (22, .own 0 0 v7.length), (23, eS 2 eOfferedPart a0), (24, vi v8)] [some (.row 1 (List.map vt v7))] ?_
    refine jv (.fptr 2 (List.map eOfferedPart a0) v8 0) (cy (I0 25 (.iaddr 2 (.t 23) (.t 24)))) (ok_iaddr_m (j := v8) rfl rfl rfl c2) rfl ?_
    refine rn 1 [(0, eS 2 eOfferedPart a0), (3, .own 0 0 v7.length), (4, vi v8), (22, .own 0 0 v7.length), (26, .fptr 2 (List.map eOfferedPart a0) v8 0)] [some (.row 1 (List.map vt v7))] ?_
    refine jv (vt ((ix a0 v8).Name)) (cy (I0 27 (.load false 1 (.t 26)))) (ok_load_fm (v := vt ((ix a0 v8).Name)) rfl c2 rfl) rfl ?_
    obtain ⟨y10, hy10, h⟩ := bind_some h
    refine RegJ.op (Op1.call (y' := vb y10) (obx := [some (.row 1 (List.map vt v7))]) (oby := [some (.row 1 (List.map vt v7))]) (ob2 := [some (.row 1 (List.map vt v7))]) _ _ (cy (I0 28 (.call 81 [(.t 22), (.t 27)]))) rfl (agraffebase_HasText_2_ok n v7 ((ix a0 v8).Name) y10 hy10) [0] (by kernel_rfl) (.cons rfl (.cons rfl (.cons rfl .nil))) (by kernel_rfl) (by kernel_rfl) (.same (row_ren vt_frz _ _ _) .nil) (by kernel_rfl) (.same (row_ren vt_frz _ _ _) .nil) (by kernel_rfl)) ?_
    refine jp [(0, eS 2 eOfferedPart a0), (3, .own 0 0 v7.length), (4, vi v8), (28, vb y10)] ?_
    refine TriE.cond (b := y10) rfl (fun c4 => ?_) (fun c4 => ?_)
    · have h := cond_t h c4
      refine sr [(2, vi 5)] [some (.row 1 (List.map vt v7))] ?_
      refine TriE.ret ?_
      have h := Option.some.inj h
      subst h
      exact DoneS.ret (S' := ⟨[(2, vi 5)], []⟩) (sc [] (by decide) (by kernel_rfl) ObRen.nil rfl rfl) rfl rfl
    have h := cond_f h c4
    refine TriE.skip ?_
    refine sj ?_
    refine rn 3 [(0, eS 2 eOfferedPart a0), (4, vi v8), (29, .own 0 0 v7.length), (30, eS 2 eOfferedPart a0), (31, vi v8)] [some (.row 1 (List.map vt v7))] ?_
    refine jv (.fptr 2 (List.map eOfferedPart a0) v8 0) (cy (I0 32 (.iaddr 2 (.t 30) (.t 31)))) (ok_iaddr_m (j := v8) rfl rfl rfl c2) rfl ?_
    refine rn 1 [(0, eS 2 eOfferedPart a0), (4, vi v8), (29, .own 0 0 v7.length), (33, .fptr 2 (List.map eOfferedPart a0) v8 0)] [some (.row 1 (List.map vt v7))] ?_
    refine jv (vt ((ix a0 v8).Name)) (cy (I0 34 (.load false 1 (.t 33)))) (ok_load_fm (v := vt ((ix a0 v8).Name)) rfl c2 rfl) rfl ?_
    refine rn 1 [(0, eS 2 eOfferedPart a0), (4, vi v8), (29, .own 0 0 v7.length), (35, .own 1 0 1)] [some (.row 1 (List.map vt v7)), some (.row 1 [vt ((ix a0 v8).Name)])] ?_
    obtain ⟨c5, h⟩ := chk_some h
    refine je (.own 2 0 ((v7 ++ ([(ix a0 v8).Name] : List Str)).length)) [none, some (.row 1 [vt ((ix a0 v8).Name)]), some (.row 1 (List.map vt (v7 ++ ([(ix a0 v8).Name] : List Str))))] (cy (I0 36 (.app 1 16 (.t 29) (.t 35)))) (ok_app_own (l := v7) (l2 := ([(ix a0 v8).Name] : List Str)) (e := vt) (u := .own 1 0 1) rfl rfl rfl rfl rfl c5) rfl rfl rfl ?_
    refine jq 1 [(0, eS 2 eOfferedPart a0), (4, vi v8), (3, .own 2 0 ((v7 ++ ([(ix a0 v8).Name] : List Str)).length))] [none, some (.row 1 [vt ((ix a0 v8).Name)]), some (.row 1 (List.map vt (v7 ++ ([(ix a0 v8).Name] : List Str))))] ?_
    refine TriE.seq ?_
    refine sj ?_
    refine rn 2 [(0, eS 2 eOfferedPart a0), (4, vi v8), (3, .own 2 0 ((v7 ++ ([(ix a0 v8).Name] : List Str)).length)), (37, eS 2 eOfferedPart a0), (38, vi v8)] [none, some (.row 1 [vt ((ix a0 v8).Name)]), some (.row 1 (List.map vt (v7 ++ ([(ix a0 v8).Name] : List Str))))] ?_
    refine jv (.fptr 2 (List.map eOfferedPart a0) v8 0) (cy (I0 39 (.iaddr 2 (.t 37) (.t 38)))) (ok_iaddr_m (j := v8) rfl rfl rfl c2) rfl ?_
    refine rn 1 [(0, eS 2 eOfferedPart a0), (4, vi v8), (3, .own 2 0 ((v7 ++ ([(ix a0 v8).Name] : List Str)).length)), (40, .fptr 2 (List.map eOfferedPart a0) v8 1)] [none, some (.row 1 [vt ((ix a0 v8).Name)]), some (.row 1 (List.map vt (v7 ++ ([(ix a0 v8).Name] : List Str))))] ?_
    refine jv (eS 1 vi ((ix a0 v8).Sizes)) (cy (I0 41 (.load false 1 (.t 40)))) (ok_load_fm (v := eS 1 vi ((ix a0 v8).Sizes)) rfl c2 rfl) rfl ?_
    refine jv (vi ((((ix a0 v8).Sizes).length : Nat) : Int)) (cy (I0 42 (.len 0 (.t 41)))) (ok_len_m rfl) rfl ?_
    obtain ⟨y11, hy11, h⟩ := bind_some h
    refine RegJ.op (Op1.call (y' := vb ((decide (1 ≤ ((((ix a0 v8).Sizes).length : Nat) : Int))) && (decide (((((ix a0 v8).Sizes).length : Nat) : Int) ≤ 6)))) (obx := []) (oby := []) (ob2 := [none, some (.row 1 [vt ((ix a0 v8).Name)]), some (.row 1 (List.map vt (v7 ++ ([(ix a0 v8).Name] : List Str))))]) _ _ (cy (I0 43 (.call 93 [(.t 42), (.c (.p (.int .i64 1))), (.c (.p (.int .i64 6)))]))) rfl (agraffebase_Within_ok n ((((ix a0 v8).Sizes).length : Nat) : Int) 1 6 y11 hy11) [] (by kernel_rfl) (.cons rfl (.cons rfl (.cons rfl (.cons rfl .nil)))) (by kernel_rfl) (by kernel_rfl) ObsRen.nil (by kernel_rfl) ObsRen.nil (by kernel_rfl)) ?_
    refine jq 1 [(0, eS 2 eOfferedPart a0), (4, vi v8), (3, .own 2 0 ((v7 ++ ([(ix a0 v8).Name] : List Str)).length)), (44, vb (!((decide (1 ≤ ((((ix a0 v8).Sizes).length : Nat) : Int))) && (decide (((((ix a0 v8).Sizes).length : Nat) : Int) ≤ 6)))))] [none, some (.row 1 [vt ((ix a0 v8).Name)]), some (.row 1 (List.map vt (v7 ++ ([(ix a0 v8).Name] : List Str))))] ?_
    refine TriE.cond (b := !((decide (1 ≤ ((((ix a0 v8).Sizes).length : Nat) : Int))) && (decide (((((ix a0 v8).Sizes).length : Nat) : Int) ≤ 6)))) rfl (fun c6 => ?_) (fun c6 => ?_)
    · have h := cond_t h c6
      refine sr [(2, vi 10)] [none, some (.row 1 [vt ((ix a0 v8).Name)]), some (.row 1 (List.map vt (v7 ++ ([(ix a0 v8).Name] : List Str))))] ?_
      refine TriE.ret ?_
      have h := Option.some.inj h
      subst h
      exact DoneS.ret (S' := ⟨[(2, vi 10)], []⟩) (sc [] (by decide) (by kernel_rfl) ObRen.nil rfl rfl) rfl rfl
    have h := cond_f h c6
    refine TriE.skip ?_
    refine sr [(0, eS 2 eOfferedPart a0), (4, vi v8), (3, .own 2 0 ((v7 ++ ([(ix a0 v8).Name] : List Str)).length)), (5, vi 0)] [none, some (.row 1 [vt ((ix a0 v8).Name)]), some (.row 1 (List.map vt (v7 ++ ([(ix a0 v8).Name] : List Str))))] ?_
    refine TriE.block ?_
    refine TriE.sees (S' := ⟨[(0, eS 2 eOfferedPart a0), (4, vi v8), (3, .own 0 0 ((v7 ++ ([(ix a0 v8).Name] : List Str)).length)), (5, vi 0)], [some (.row 1 (List.map vt (v7 ++ ([(ix a0 v8).Name] : List Str))))]⟩) (sc [2] (by decide) (by kernel_rfl) (obRen_row vt_frz rfl .nil) rfl rfl) ?_
    refine TriE.loopN h (fun (v13 : Nat) => St.mk [(0, eS 2 eOfferedPart a0), (4, vi v8), (3, .own 0 0 ((v7 ++ ([(ix a0 v8).Name] : List Str)).length)), (5, vi v13)] [some (.row 1 (List.map vt (v7 ++ ([(ix a0 v8).Name] : List Str))))]) rfl ?_
    clear h
    rintro back v13 h
    dsimp only [agrafferef08_CheckOffered_L1] at h
    refine TriE.seq ?_
    refine sj ?_
    refine rn 3 [(0, eS 2 eOfferedPart a0), (4, vi v8), (3, .own 0 0 ((v7 ++ ([(ix a0 v8).Name] : List Str)).length)), (5, vi v13), (45, vi v13), (46, eS 2 eOfferedPart a0), (47, vi v8)] [some (.row 1 (List.map vt (v7 ++ ([(ix a0 v8).Name] : List Str))))] ?_
    refine jv (.fptr 2 (List.map eOfferedPart a0) v8 0) (cy (I0 48 (.iaddr 2 (.t 46) (.t 47)))) (ok_iaddr_m (j := v8) rfl rfl rfl c2) rfl ?_
    refine rn 1 [(0, eS 2 eOfferedPart a0), (4, vi v8), (3, .own 0 0 ((v7 ++ ([(ix a0 v8).Name] : List Str)).length)), (5, vi v13), (45, vi v13), (49, .fptr 2 (List.map eOfferedPart a0) v8 1)] [some (.row 1 (List.map vt (v7 ++ ([(ix a0 v8).Name] : List Str))))] ?_
    refine jv (eS 1 vi ((ix a0 v8).Sizes)) (cy (I0 50 (.load false 1 (.t 49)))) (ok_load_fm (v := eS 1 vi ((ix a0 v8).Sizes)) rfl c2 rfl) rfl ?_
    refine jv (vi ((((ix a0 v8).Sizes).length : Nat) : Int)) (cy (I0 51 (.len 0 (.t 50)))) (ok_len_m rfl) rfl ?_
    refine jv (vb (decide (v13 < (((ix a0 v8).Sizes).length)))) (cy (I0 52 (.bin .lss false (.t 45) (.t 51)))) (n_lss (i := v13) (j := ((ix a0 v8).Sizes).length) rfl rfl) rfl ?_
    refine jp [(0, eS 2 eOfferedPart a0), (4, vi v8), (3, .own 0 0 ((v7 ++ ([(ix a0 v8).Name] : List Str)).length)), (5, vi v13), (52, vb (decide (v13 < (((ix a0 v8).Sizes).length))))] ?_
    refine TriE.cond (b := decide (v13 < (((ix a0 v8).Sizes).length))) rfl (fun c7 => ?_) (fun c7 => ?_)
    · have h := cond_t h c7
      refine TriE.skip ?_
      refine TriE.seq ?_
      refine TriE.block ?_
      refine sj ?_
      refine rn 2 [(0, eS 2 eOfferedPart a0), (4, vi v8), (3, .own 0 0 ((v7 ++ ([(ix a0 v8).Name] : List Str)).length)), (5, vi v13), (55, eS 2 eOfferedPart a0), (56, vi v8)] [some (.row 1 (List.map vt (v7 ++ ([(ix a0 v8).Name] : List Str))))] ?_
      refine jv (.fptr 2 (List.map eOfferedPart a0) v8 0) (cy (I0 57 (.iaddr 2 (.t 55) (.t 56)))) (ok_iaddr_m (j := v8) rfl rfl rfl c2) rfl ?_
      refine rn 1 [(0, eS 2 eOfferedPart a0), (4, vi v8), (3, .own 0 0 ((v7 ++ ([(ix a0 v8).Name] : List Str)).length)), (5, vi v13), (58, .fptr 2 (List.map eOfferedPart a0) v8 1)] [some (.row 1 (List.map vt (v7 ++ ([(ix a0 v8).Name] : List Str))))] ?_
      refine jv (eS 1 vi ((ix a0 v8).Sizes)) (cy (I0 59 (.load false 1 (.t 58)))) (ok_load_fm (v := eS 1 vi ((ix a0 v8).Sizes)) rfl c2 rfl) rfl ?_
      refine rn 1 [(0, eS 2 eOfferedPart a0), (4, vi v8), (3, .own 0 0 ((v7 ++ ([(ix a0 v8).Name] : List Str)).length)), (5, vi v13), (59, eS 1 vi ((ix a0 v8).Sizes)), (60, vi v13)] [some (.row 1 (List.map vt (v7 ++ ([(ix a0 v8).Name] : List Str))))] ?_
      obtain ⟨c8, h⟩ := chk_some h
      refine jv (.fptr 1 (List.map vi ((ix a0 v8).Sizes)) v13 0) (cy (I0 61 (.iaddr 1 (.t 59) (.t 60)))) (ok_iaddr_m (j := v13) rfl rfl rfl c8) rfl ?_
      refine jv (vi (ix ((ix a0 v8).Sizes) v13)) (cy (I0 62 (.load false 1 (.t 61)))) (ok_load_fm (v := vi (ix ((ix a0 v8).Sizes) v13)) rfl c8 rfl) rfl ?_
      obtain ⟨y14, hy14, h⟩ := bind_some h
      refine RegJ.op (Op1.call (y' := vb ((decide (0 ≤ (ix ((ix a0 v8).Sizes) v13))) && (decide ((ix ((ix a0 v8).Sizes) v13) ≤ 1000000)))) (obx := []) (oby := []) (ob2 := [some (.row 1 (List.map vt (v7 ++ ([(ix a0 v8).Name] : List Str))))]) _ _ (cy (I0 63 (.call 93 [(.t 62), (.c (.p (.int .i64 0))), (.c (.p (.int .i64 1000000)))]))) rfl (agraffebase_Within_ok n (ix ((ix a0 v8).Sizes) v13) 0 1000000 y14 hy14) [] (by kernel_rfl) (.cons rfl (.cons rfl (.cons rfl (.cons rfl .nil)))) (by kernel_rfl) (by kernel_rfl) ObsRen.nil (by kernel_rfl) ObsRen.nil (by kernel_rfl)) ?_
      refine jq 1 [(0, eS 2 eOfferedPart a0), (4, vi v8), (3, .own 0 0 ((v7 ++ ([(ix a0 v8).Name] : List Str)).length)), (5, vi v13), (64, vb (!((decide (0 ≤ (ix ((ix a0 v8).Sizes) v13))) && (decide ((ix ((ix a0 v8).Sizes) v13) ≤ 1000000)))))] [some (.row 1 (List.map vt (v7 ++ ([(ix a0 v8).Name] : List Str))))] ?_
      refine TriE.cond (b := !((decide (0 ≤ (ix ((ix a0 v8).Sizes) v13))) && (decide ((ix ((ix a0 v8).Sizes) v13) ≤ 1000000)))) rfl (fun c9 => ?_) (fun c9 => ?_)
      · have h := cond_t h c9
        refine sr [(2, vi 2)] [some (.row 1 (List.map vt (v7 ++ ([(ix a0 v8).Name] : List Str))))] ?_
        refine TriE.ret ?_
        have h := Option.some.inj h
        subst h
        exact DoneS.ret (S' := ⟨[(2, vi 2)], []⟩) (sc [] (by decide) (by kernel_rfl) ObRen.nil rfl rfl) rfl rfl
      have h := cond_f h c9
      refine TriE.skip ?_
      refine TriE.regJ ?_
      refine rn 1 [(0, eS 2 eOfferedPart a0), (4, vi v8), (3, .own 0 0 ((v7 ++ ([(ix a0 v8).Name] : List Str)).length)), (53, vi v13)] [some (.row 1 (List.map vt (v7 ++ ([(ix a0 v8).Name] : List Str))))] ?_
      obtain ⟨c10, h⟩ := chk_some h
      refine jv (vi ((v13 + 1 : Nat) : Int)) (cy (I0 54 (.bin .add false (.t 53) (.c (.p (.int .i64 1)))))) (r_addn (i := v13) (j := 1) rfl rfl c10) rfl ?_
      refine jq 1 [(0, eS 2 eOfferedPart a0), (4, vi v8), (3, .own 0 0 ((v7 ++ ([(ix a0 v8).Name] : List Str)).length)), (5, vi ((v13 + 1 : Nat) : Int))] [some (.row 1 (List.map vt (v7 ++ ([(ix a0 v8).Name] : List Str))))] ?_
      exact Vs.intro sy ⟨(v13 + 1), rfl, h⟩
    have h := cond_f h c7
    refine TriE.exit ?_
    exact Vs.intro sy ⟨(), rfl, h⟩
  have h := cond_f h c2
  refine TriE.exit ?_
  exact Vs.intro (sc [] (by decide) (by kernel_rfl) ObRen.nil rfl rfl) ⟨(), rfl, h⟩
theorem agrafferef08_CheckBoth_ok (n : Nat) (a0 : List WantedPart) (a1 : List OfferedPart) (r : Int) (h : agrafferef08_CheckBoth n a0 a1 = some r) : FnL Tryz.prog 62 [eS 2 eWantedPart a0, eS 2 eOfferedPart a1] [] (vi r) [] := by
  dsimp only [agrafferef08_CheckBoth] at h
  refine FnL.ofS (ts := [4]) Tryz.call62 Tryz.func62 rfl rfl (Nat.le_of_ble_eq_true rfl) (Nat.le_of_ble_eq_true rfl) (fun j h => absurd h (Nat.not_lt_zero j)) ?_
  refine sr [(0, eS 2 eWantedPart a0), (1, eS 2 eOfferedPart a1)] [] ?_
  refine TriE.seq ?_
  refine sj ?_
  refine rn 1 [(1, eS 2 eOfferedPart a1), (6, eS 2 eWantedPart a0)] [] ?_
  obtain ⟨y1, hy1, h⟩ := bind_some h
  refine RegJ.op (Op1.call (y' := vi y1) (obx := []) (oby := []) (ob2 := []) _ _ (cy (I0 7 (.call 128 [(.t 6)]))) rfl (agrafferef08_CheckWanted_ok n a0 y1 hy1) [] (by kernel_rfl) (.cons rfl (.cons rfl .nil)) (by kernel_rfl) (by kernel_rfl) ObsRen.nil (by kernel_rfl) ObsRen.nil (by kernel_rfl)) ?_
  refine jq 1 [(1, eS 2 eOfferedPart a1), (5, vi y1)] [] ?_
  refine sr [(1, eS 2 eOfferedPart a1), (5, vi y1), (9, vb (y1 != (0 : Int)))] [] ?_
  refine TriE.cond (b := (y1 != (0 : Int))) rfl (fun c1 => ?_) (fun c1 => ?_)
  · have h := cond_t h c1
    refine sr [(4, vi y1)] [] ?_
    refine TriE.ret ?_
    have h := Option.some.inj h
    subst h
    exact DoneS.ret (S' := ⟨[(4, vi y1)], []⟩) Sees.refl rfl rfl
  have h := cond_f h c1
  refine TriE.skip ?_
  refine sj ?_
  refine rn 1 [(11, eS 2 eOfferedPart a1)] [] ?_
  obtain ⟨y2, hy2, h⟩ := bind_some h
  refine RegJ.op (Op1.call (y' := vi y2) (obx := []) (oby := []) (ob2 := []) _ _ (cy (I0 12 (.call 129 [(.t 11)]))) rfl (agrafferef08_CheckOffered_ok n a1 y2 hy2) [] (by kernel_rfl) (.cons rfl (.cons rfl .nil)) (by kernel_rfl) (by kernel_rfl) ObsRen.nil (by kernel_rfl) ObsRen.nil (by kernel_rfl)) ?_
  refine jq 1 [(4, vi y2)] [] ?_
  refine TriE.ret ?_
  have h := Option.some.inj h
  subst h
  exact DoneS.ret (S' := ⟨[(4, vi y2)], []⟩) Sees.refl rfl rfl
theorem agrafferef08_Fits_ok (n : Nat) (a0 : WantedPart) (a1 : OfferedPart) (r : Bool) (h : agrafferef08_Fits n a0 a1 = some r) : FnL Tryz.prog 68 [.agg [vt a0.Name, eS 2 eRange a0.Ranges], .agg [vt a1.Name, eS 1 vi a1.Sizes]] [] (vb r) [] := by
  dsimp only [agrafferef08_Fits] at h
  refine FnL.ofS (ts := [4]) Tryz.call68 Tryz.func68 rfl rfl (Nat.le_of_ble_eq_true rfl) (Nat.le_of_ble_eq_true rfl) (fun j h => absurd h (Nat.not_lt_zero j)) ?_
  refine sr [(2, .ptr 0 0 0), (3, .ptr 1 0 0)] [some (.row 2 [.agg [vt a0.Name, eS 2 eRange a0.Ranges]]), some (.row 2 [.agg [vt a1.Name, eS 1 vi a1.Sizes]])] ?_
  refine TriE.seq ?_
  refine sj ?_
  refine rn 2 [(2, .ptr 0 0 0), (3, .ptr 1 0 0), (7, eS 2 eRange a0.Ranges)] [some (.row 2 [.agg [vt a0.Name, eS 2 eRange a0.Ranges]]), some (.row 2 [.agg [vt a1.Name, eS 1 vi a1.Sizes]])] ?_
  refine jv (vi ((a0.Ranges.length : Nat) : Int)) (cy (I0 8 (.len 0 (.t 7)))) (ok_len_m rfl) rfl ?_
  refine rn 2 [(2, .ptr 0 0 0), (3, .ptr 1 0 0), (8, vi ((a0.Ranges.length : Nat) : Int)), (10, eS 1 vi a1.Sizes)] [some (.row 2 [.agg [vt a0.Name, eS 2 eRange a0.Ranges]]), some (.row 2 [.agg [vt a1.Name, eS 1 vi a1.Sizes]])] ?_
  refine jv (vi ((a1.Sizes.length : Nat) : Int)) (cy (I0 11 (.len 0 (.t 10)))) (ok_len_m rfl) rfl ?_
  refine jv (vb (!decide (a0.Ranges.length = a1.Sizes.length))) (cy (I0 12 (.bin .neq false (.t 8) (.t 11)))) (n_neq (i := a0.Ranges.length) (j := a1.Sizes.length) rfl rfl) rfl ?_
  refine jp [(2, .ptr 0 0 0), (3, .ptr 1 0 0), (12, vb (!decide (a0.Ranges.length = a1.Sizes.length)))] ?_
  refine TriE.cond (b := !decide (a0.Ranges.length = a1.Sizes.length)) rfl (fun c1 => ?_) (fun c1 => ?_)
  · have h := cond_t h c1
    refine sr [(4, vb false)] [some (.row 2 [.agg [vt a0.Name, eS 2 eRange a0.Ranges]]), some (.row 2 [.agg [vt a1.Name, eS 1 vi a1.Sizes]])] ?_
    refine TriE.ret ?_
    have h := Option.some.inj h
    subst h
    exact DoneS.ret (S' := ⟨[(4, vb false)], []⟩) (sc [] (by decide) (by kernel_rfl) ObRen.nil rfl rfl) rfl rfl
  have h := cond_f h c1
  refine TriE.skip ?_
  refine TriE.seqK h (fun (_ : Unit) => St.mk [] []) ?_ ?_
  · rintro ⟨⟩ h
    refine sr [(4, vb true)] [] ?_
    refine TriE.ret ?_
    have h := Option.some.inj h
    subst h
    exact DoneS.ret (S' := ⟨[(4, vb true)], []⟩) Sees.refl rfl rfl
  intro k1 h
  refine sr [(2, .ptr 0 0 0), (3, .ptr 1 0 0), (5, vi 0)] [some (.row 2 [.agg [vt a0.Name, eS 2 eRange a0.Ranges]]), some (.row 2 [.agg [vt a1.Name, eS 1 vi a1.Sizes]])] ?_
  refine TriE.block ?_
  refine TriE.sees (S' := ⟨[(2, .ptr 0 0 0), (3, .ptr 1 0 0), (5, vi 0)], [some (.row 2 [.agg [vt a0.Name, eS 2 eRange a0.Ranges]]), some (.row 2 [.agg [vt a1.Name, eS 1 vi a1.Sizes]])]⟩) sy ?_
  refine TriE.loopN h (fun (v2 : Nat) => St.mk [(2, .ptr 0 0 0), (3, .ptr 1 0 0), (5, vi v2)] [some (.row 2 [.agg [vt a0.Name, eS 2 eRange a0.Ranges]]), some (.row 2 [.agg [vt a1.Name, eS 1 vi a1.Sizes]])]) rfl ?_
  clear h
  rintro back v2 h
  dsimp only [agrafferef08_Fits_L1] at h
  refine TriE.seq ?_
  refine sj ?_
  refine rn 3 [(2, .ptr 0 0 0), (3, .ptr 1 0 0), (5, vi v2), (13, vi v2), (15, eS 1 vi a1.Sizes)] [some (.row 2 [.agg [vt a0.Name, eS 2 eRange a0.Ranges]]), some (.row 2 [.agg [vt a1.Name, eS 1 vi a1.Sizes]])] ?_
  refine jv (vi ((a1.Sizes.length : Nat) : Int)) (cy (I0 16 (.len 0 (.t 15)))) (ok_len_m rfl) rfl ?_
  refine jv (vb (decide (v2 < a1.Sizes.length))) (cy (I0 17 (.bin .lss false (.t 13) (.t 16)))) (n_lss (i := v2) (j := a1.Sizes.length) rfl rfl) rfl ?_
  refine jp [(2, .ptr 0 0 0), (3, .ptr 1 0 0), (5, vi v2), (17, vb (decide (v2 < a1.Sizes.length)))] ?_
  refine TriE.cond (b := decide (v2 < a1.Sizes.length)) rfl (fun c2 => ?_) (fun c2 => ?_)
  · have h := cond_t h c2
    refine TriE.skip ?_
    refine TriE.seq ?_
    refine TriE.block ?_
    refine TriE.seq ?_
    refine TriE.sees (Sees.less (fr' := [(2, .ptr 0 0 0), (3, .ptr 1 0 0), (5, vi v2)]) (.cons rfl (.cons rfl (.cons rfl .nil)))) ?_
    refine TriE.draw (by kernel_rfl) ?_
    refine RegD.run 3 [(22, vi v2), (21, eS 1 vi a1.Sizes), (20, .ptr 1 0 1), (2, .ptr 0 0 0), (3, .ptr 1 0 0), (5, vi v2)] [some (.row 2 [.agg [vt a0.Name, eS 2 eRange a0.Ranges]]), some (.row 2 [.agg [vt a1.Name, eS 1 vi a1.Sizes]]), none, none, none] (by kernel_rfl) ?_
    refine dv (.fptr 1 (List.map vi a1.Sizes) v2 0) (cy (I0 23 (.iaddr 1 (.t 21) (.t 22)))) (ok_iaddr_m (j := v2) rfl rfl rfl c2) rfl ?_
    refine dv (vi (ix a1.Sizes v2)) (cy (I0 24 (.load false 1 (.t 23)))) (ok_load_fm (v := vi (ix a1.Sizes v2)) rfl c2 rfl) rfl ?_
    refine RegD.run 3 [(27, vi v2), (26, eS 2 eRange a0.Ranges), (25, .ptr 0 0 1), (24, vi (ix a1.Sizes v2)), (23, .fptr 1 (List.map vi a1.Sizes) v2 0), (22, vi v2), (21, eS 1 vi a1.Sizes), (20, .ptr 1 0 1), (2, .ptr 0 0 0), (3, .ptr 1 0 0), (5, vi v2)] [some (.row 2 [.agg [vt a0.Name, eS 2 eRange a0.Ranges]]), some (.row 2 [.agg [vt a1.Name, eS 1 vi a1.Sizes]]), none, none, none, none, none, none, none, none] (by kernel_rfl) ?_
    obtain ⟨c3, h⟩ := chk_some h
    refine dv (.fptr 2 (List.map eRange a0.Ranges) v2 0) (cy (I0 28 (.iaddr 2 (.t 26) (.t 27)))) (ok_iaddr_m (j := v2) rfl rfl rfl c3) rfl ?_
    refine RegD.run 1 [(29, .fptr 2 (List.map eRange a0.Ranges) v2 0), (28, .fptr 2 (List.map eRange a0.Ranges) v2 0), (27, vi v2), (26, eS 2 eRange a0.Ranges), (25, .ptr 0 0 1), (24, vi (ix a1.Sizes v2)), (23, .fptr 1 (List.map vi a1.Sizes) v2 0), (22, vi v2), (21, eS 1 vi a1.Sizes), (20, .ptr 1 0 1), (2, .ptr 0 0 0), (3, .ptr 1 0 0), (5, vi v2)] [some (.row 2 [.agg [vt a0.Name, eS 2 eRange a0.Ranges]]), some (.row 2 [.agg [vt a1.Name, eS 1 vi a1.Sizes]]), none, none, none, none, none, none, none, none, none, none] (by kernel_rfl) ?_
    refine dv (vi ((ix a0.Ranges v2).Lo)) (cy (I0 30 (.load false 1 (.t 29)))) (ok_load_fm (v := vi ((ix a0.Ranges v2).Lo)) rfl c3 rfl) rfl ?_
    refine RegD.run 3 [(33, vi v2), (32, eS 2 eRange a0.Ranges), (31, .ptr 0 0 1), (30, vi ((ix a0.Ranges v2).Lo)), (29, .fptr 2 (List.map eRange a0.Ranges) v2 0), (28, .fptr 2 (List.map eRange a0.Ranges) v2 0), (27, vi v2), (26, eS 2 eRange a0.Ranges), (25, .ptr 0 0 1), (24, vi (ix a1.Sizes v2)), (23, .fptr 1 (List.map vi a1.Sizes) v2 0), (22, vi v2), (21, eS 1 vi a1.Sizes), (20, .ptr 1 0 1), (2, .ptr 0 0 0), (3, .ptr 1 0 0), (5, vi v2)] [some (.row 2 [.agg [vt a0.Name, eS 2 eRange a0.Ranges]]), some (.row 2 [.agg [vt a1.Name, eS 1 vi a1.Sizes]]), none, none, none, none, none, none, none, none, none, none, none, none, none, none] (by kernel_rfl) ?_
    refine dv (.fptr 2 (List.map eRange a0.Ranges) v2 0) (cy (I0 34 (.iaddr 2 (.t 32) (.t 33)))) (ok_iaddr_m (j := v2) rfl rfl rfl c3) rfl ?_
    refine RegD.run 1 [(35, .fptr 2 (List.map eRange a0.Ranges) v2 1), (34, .fptr 2 (List.map eRange a0.Ranges) v2 0), (33, vi v2), (32, eS 2 eRange a0.Ranges), (31, .ptr 0 0 1), (30, vi ((ix a0.Ranges v2).Lo)), (29, .fptr 2 (List.map eRange a0.Ranges) v2 0), (28, .fptr 2 (List.map eRange a0.Ranges) v2 0), (27, vi v2), (26, eS 2 eRange a0.Ranges), (25, .ptr 0 0 1), (24, vi (ix a1.Sizes v2)), (23, .fptr 1 (List.map vi a1.Sizes) v2 0), (22, vi v2), (21, eS 1 vi a1.Sizes), (20, .ptr 1 0 1), (2, .ptr 0 0 0), (3, .ptr 1 0 0), (5, vi v2)] [some (.row 2 [.agg [vt a0.Name, eS 2 eRange a0.Ranges]]), some (.row 2 [.agg [vt a1.Name, eS 1 vi a1.Sizes]]), none, none, none, none, none, none, none, none, none, none, none, none, none, none, none, none] (by kernel_rfl) ?_
    refine dv (vi ((ix a0.Ranges v2).Hi)) (cy (I0 36 (.load false 1 (.t 35)))) (ok_load_fm (v := vi ((ix a0.Ranges v2).Hi)) rfl c3 rfl) rfl ?_
    obtain ⟨y3, hy3, h⟩ := bind_some h
    refine RegD.op (OpD.call (y' := vb ((decide (((ix a0.Ranges v2).Lo) ≤ (ix a1.Sizes v2))) && (decide ((ix a1.Sizes v2) ≤ ((ix a0.Ranges v2).Hi))))) (obx := []) (oby := []) (ob2 := [some (.row 2 [.agg [vt a0.Name, eS 2 eRange a0.Ranges]]), some (.row 2 [.agg [vt a1.Name, eS 1 vi a1.Sizes]]), none, none, none, none, none, none, none, none, none, none, none, none, none, none, none, none, none, none]) (tch := []) 0 _ _ (cy (I0 37 (.call 93 [(.t 24), (.t 30), (.t 36)]))) (agraffebase_Within_ok n (ix a1.Sizes v2) ((ix a0.Ranges v2).Lo) ((ix a0.Ranges v2).Hi) y3 hy3) [] (by kernel_rfl) (.cons rfl (.cons rfl (.cons rfl (.cons rfl .nil)))) (by kernel_rfl) (by kernel_rfl) ObsRen.nil (by kernel_rfl) ObsRen.nil (by kernel_rfl) rfl (.inr ⟨rfl, rfl⟩)) ?_
    refine RegD.run 1 [(38, vb (!((decide (((ix a0.Ranges v2).Lo) ≤ (ix a1.Sizes v2))) && (decide ((ix a1.Sizes v2) ≤ ((ix a0.Ranges v2).Hi)))))), (37, vb ((decide (((ix a0.Ranges v2).Lo) ≤ (ix a1.Sizes v2))) && (decide ((ix a1.Sizes v2) ≤ ((ix a0.Ranges v2).Hi))))), (36, vi ((ix a0.Ranges v2).Hi)), (35, .fptr 2 (List.map eRange a0.Ranges) v2 1), (34, .fptr 2 (List.map eRange a0.Ranges) v2 0), (33, vi v2), (32, eS 2 eRange a0.Ranges), (31, .ptr 0 0 1), (30, vi ((ix a0.Ranges v2).Lo)), (29, .fptr 2 (List.map eRange a0.Ranges) v2 0), (28, .fptr 2 (List.map eRange a0.Ranges) v2 0), (27, vi v2), (26, eS 2 eRange a0.Ranges), (25, .ptr 0 0 1), (24, vi (ix a1.Sizes v2)), (23, .fptr 1 (List.map vi a1.Sizes) v2 0), (22, vi v2), (21, eS 1 vi a1.Sizes), (20, .ptr 1 0 1), (2, .ptr 0 0 0), (3, .ptr 1 0 0), (5, vi v2)] [some (.row 2 [.agg [vt a0.Name, eS 2 eRange a0.Ranges]]), some (.row 2 [.agg [vt a1.Name, eS 1 vi a1.Sizes]]), none, none, none, none, none, none, none, none, none, none, none, none, none, none, none, none, none, none, none] (by kernel_rfl) ?_
    refine RegD.done rfl (by kernel_rfl) (S' := ⟨[(2, .ptr 0 0 0), (3, .ptr 1 0 0), (5, vi v2), (38, vb (!((decide (((ix a0.Ranges v2).Lo) ≤ (ix a1.Sizes v2))) && (decide ((ix a1.Sizes v2) ≤ ((ix a0.Ranges v2).Hi))))))], [some (.row 2 [.agg [vt a0.Name, eS 2 eRange a0.Ranges]]), some (.row 2 [.agg [vt a1.Name, eS 1 vi a1.Sizes]])]⟩) (sc [0, 1] (by decide) (by kernel_rfl) (.cons rfl (.cons rfl .nil)) rfl rfl) ?_
    refine TriE.cond (b := !((decide (((ix a0.Ranges v2).Lo) ≤ (ix a1.Sizes v2))) && (decide ((ix a1.Sizes v2) ≤ ((ix a0.Ranges v2).Hi))))) rfl (fun c4 => ?_) (fun c4 => ?_)
    · have h := cond_t h c4
      refine sr [(4, vb false)] [some (.row 2 [.agg [vt a0.Name, eS 2 eRange a0.Ranges]]), some (.row 2 [.agg [vt a1.Name, eS 1 vi a1.Sizes]])] ?_
      refine TriE.ret ?_
      have h := Option.some.inj h
      subst h
      exact DoneS.ret (S' := ⟨[(4, vb false)], []⟩) (sc [] (by decide) (by kernel_rfl) ObRen.nil rfl rfl) rfl rfl
    have h := cond_f h c4
    refine TriE.skip ?_
    refine TriE.regJ ?_
    refine rn 1 [(2, .ptr 0 0 0), (3, .ptr 1 0 0), (18, vi v2)] [some (.row 2 [.agg [vt a0.Name, eS 2 eRange a0.Ranges]]), some (.row 2 [.agg [vt a1.Name, eS 1 vi a1.Sizes]])] ?_
    obtain ⟨c5, h⟩ := chk_some h
    refine jv (vi ((v2 + 1 : Nat) : Int)) (cy (I0 19 (.bin .add false (.t 18) (.c (.p (.int .i64 1)))))) (r_addn (i := v2) (j := 1) rfl rfl c5) rfl ?_
    refine jq 1 [(2, .ptr 0 0 0), (3, .ptr 1 0 0), (5, vi ((v2 + 1 : Nat) : Int))] [some (.row 2 [.agg [vt a0.Name, eS 2 eRange a0.Ranges]]), some (.row 2 [.agg [vt a1.Name, eS 1 vi a1.Sizes]])] ?_
    exact Vs.intro sy ⟨(v2 + 1), rfl, h⟩
  have h := cond_f h c2
  refine TriE.exit ?_
  exact Vs.intro (sc [] (by decide) (by kernel_rfl) ObRen.nil rfl rfl) ⟨(), rfl, h⟩
theorem agraffebase_Has_ok (n : Nat) (a0 : List Int) (a1 : Int) (r : Bool) (h : agraffebase_Has n a0 a1 = some r) : FnL Tryz.prog 130 [eS 1 vi a0, vi a1] [] (vb r) [] := by
  dsimp only [agraffebase_Has] at h
  refine FnL.ofS (ts := [4]) Tryz.call130 Tryz.func130 rfl rfl (Nat.le_of_ble_eq_true rfl) (Nat.le_of_ble_eq_true rfl) (fun j h => absurd h (Nat.not_lt_zero j)) ?_
  refine sr [(0, eS 1 vi a0), (1, vi a1)] [] ?_
  refine TriE.seqK h (fun (_ : Unit) => St.mk [] []) ?_ ?_
  · rintro ⟨⟩ h
    refine sr [(4, vb false)] [] ?_
    refine TriE.ret ?_
    have h := Option.some.inj h
    subst h
    exact DoneS.ret (S' := ⟨[(4, vb false)], []⟩) Sees.refl rfl rfl
  intro k1 h
  refine sr [(0, eS 1 vi a0), (1, vi a1), (5, vi 0)] [] ?_
  refine TriE.block ?_
  refine TriE.sees (S' := ⟨[(0, eS 1 vi a0), (1, vi a1), (5, vi 0)], []⟩) sy ?_
  refine TriE.loopN h (fun (v1 : Nat) => St.mk [(0, eS 1 vi a0), (1, vi a1), (5, vi v1)] []) rfl ?_
  clear h
  rintro back v1 h
  dsimp only [agraffebase_Has_L1] at h
  refine TriE.seq ?_
  refine sj ?_
  refine rn 2 [(0, eS 1 vi a0), (1, vi a1), (5, vi v1), (6, vi v1), (7, eS 1 vi a0)] [] ?_
  refine jv (vi (a0.length : Int)) (cy (I0 8 (.len 0 (.t 7)))) (ok_len_m rfl) rfl ?_
  refine jv (vb (decide (v1 < a0.length))) (cy (I0 9 (.bin .lss false (.t 6) (.t 8)))) (n_lss (i := v1) (j := a0.length) rfl rfl) rfl ?_
  refine jp [(0, eS 1 vi a0), (1, vi a1), (5, vi v1), (9, vb (decide (v1 < a0.length)))] ?_
  refine TriE.cond (b := decide (v1 < a0.length)) rfl (fun c1 => ?_) (fun c1 => ?_)
  · have h := cond_t h c1
    refine TriE.skip ?_
    refine TriE.seq ?_
    refine TriE.block ?_
    refine sj ?_
    refine rn 2 [(0, eS 1 vi a0), (1, vi a1), (5, vi v1), (12, eS 1 vi a0), (13, vi v1)] [] ?_
    refine jv (.fptr 1 (List.map vi a0) v1 0) (cy (I0 14 (.iaddr 1 (.t 12) (.t 13)))) (ok_iaddr_m (j := v1) rfl rfl rfl c1) rfl ?_
    refine jv (vi (ix a0 v1)) (cy (I0 15 (.load false 1 (.t 14)))) (ok_load_fm (v := vi (ix a0 v1)) rfl c1 rfl) rfl ?_
    refine jq 2 [(0, eS 1 vi a0), (1, vi a1), (5, vi v1), (17, vb ((ix a0 v1) == a1))] [] ?_
    refine TriE.cond (b := ((ix a0 v1) == a1)) rfl (fun c2 => ?_) (fun c2 => ?_)
    · have h := cond_t h c2
      refine sr [(4, vb true)] [] ?_
      refine TriE.ret ?_
      have h := Option.some.inj h
      subst h
      exact DoneS.ret (S' := ⟨[(4, vb true)], []⟩) Sees.refl rfl rfl
    have h := cond_f h c2
    refine TriE.skip ?_
    refine TriE.regJ ?_
    refine rn 1 [(0, eS 1 vi a0), (1, vi a1), (10, vi v1)] [] ?_
    obtain ⟨c3, h⟩ := chk_some h
    refine jv (vi ((v1 + 1 : Nat) : Int)) (cy (I0 11 (.bin .add false (.t 10) (.c (.p (.int .i64 1)))))) (r_addn (i := v1) (j := 1) rfl rfl c3) rfl ?_
    refine jq 1 [(0, eS 1 vi a0), (1, vi a1), (5, vi ((v1 + 1 : Nat) : Int))] [] ?_
    exact Vs.intro sy ⟨(v1 + 1), rfl, h⟩
  have h := cond_f h c1
  refine TriE.exit ?_
  exact Vs.intro sy ⟨(), rfl, h⟩
theorem agrafferef08_CheckMatch_ok (n : Nat) (a0 : List WantedPart) (a1 : List OfferedPart) (a2 : List Int) (r : Int × Int) (h : agrafferef08_CheckMatch n a0 a1 a2 = some r) : FnL Tryz.prog 63 [eS 2 eWantedPart a0, eS 2 eOfferedPart a1, eS 1 vi a2] [] (.tup [vi r.2, vi r.1]) [] := by
  dsimp only [agrafferef08_CheckMatch] at h
  refine FnL.ofS (ts := [6, 7]) Tryz.call63 Tryz.func63 rfl rfl (Nat.le_of_ble_eq_true rfl) (Nat.le_of_ble_eq_true rfl) (fun j h => absurd h (Nat.not_lt_zero j)) ?_
  refine sr [(0, eS 2 eWantedPart a0), (1, eS 2 eOfferedPart a1), (2, eS 1 vi a2)] [] ?_
  refine TriE.seq ?_
  refine sj ?_
  refine rn 1 [(0, eS 2 eWantedPart a0), (1, eS 2 eOfferedPart a1), (2, eS 1 vi a2), (10, eS 1 vi a2)] [] ?_
  refine jv (vi (a2.length : Int)) (cy (I0 11 (.len 0 (.t 10)))) (ok_len_m rfl) rfl ?_
  refine rn 1 [(0, eS 2 eWantedPart a0), (1, eS 2 eOfferedPart a1), (2, eS 1 vi a2), (11, vi (a2.length : Int)), (12, eS 2 eWantedPart a0)] [] ?_
  refine jv (vi (a0.length : Int)) (cy (I0 13 (.len 0 (.t 12)))) (ok_len_m rfl) rfl ?_
  refine jv (vb (!decide (a2.length = a0.length))) (cy (I0 14 (.bin .neq false (.t 11) (.t 13)))) (n_neq (i := a2.length) (j := a0.length) rfl rfl) rfl ?_
  refine jp [(0, eS 2 eWantedPart a0), (1, eS 2 eOfferedPart a1), (2, eS 1 vi a2), (14, vb (!decide (a2.length = a0.length)))] ?_
  refine TriE.cond (b := !decide (a2.length = a0.length)) rfl (fun c1 => ?_) (fun c1 => ?_)
  · have h := cond_t h c1
    refine sr [(6, vi 0), (7, vi 10)] [] ?_
    refine TriE.ret ?_
    have h := Option.some.inj h
    subst h
    exact DoneS.ret (S' := ⟨[(6, vi 0), (7, vi 10)], []⟩) Sees.refl rfl rfl
  have h := cond_f h c1
  refine TriE.skip ?_
  refine sr [(0, eS 2 eWantedPart a0), (1, eS 2 eOfferedPart a1), (2, eS 1 vi a2), (8, vi 0)] [] ?_
  refine TriE.seqK h (fun (v11 : Nat) => St.mk [(8, vi v11)] []) ?_ ?_
  · rintro v11 h
    refine sr [(6, vi v11), (7, vi 0)] [] ?_
    refine TriE.ret ?_
    have h := Option.some.inj h
    subst h
    exact DoneS.ret (S' := ⟨[(6, vi v11), (7, vi 0)], []⟩) Sees.refl rfl rfl
  intro k2 h
  refine sr [(0, eS 2 eWantedPart a0), (1, eS 2 eOfferedPart a1), (2, eS 1 vi a2), (8, vi 0), (9, vi 0)] [] ?_
  refine TriE.block ?_
  refine TriE.sees (S' := ⟨[(0, eS 2 eWantedPart a0), (1, eS 2 eOfferedPart a1), (2, eS 1 vi a2), (8, vi 0), (9, vi 0)], []⟩) sy ?_
  refine TriE.loopN h (fun (t : Nat × Nat) => match t with | (v5, v6) => St.mk [(0, eS 2 eWantedPart a0), (1, eS 2 eOfferedPart a1), (2, eS 1 vi a2), (8, vi v5), (9, vi v6)] []) rfl ?_
  clear h
  rintro back ⟨v5, v6⟩ h
  dsimp only [agrafferef08_CheckMatch_L1] at h
  refine TriE.seq ?_
  refine sj ?_
  refine rn 2 [(0, eS 2 eWantedPart a0), (1, eS 2 eOfferedPart a1), (2, eS 1 vi a2), (8, vi v5), (9, vi v6), (15, vi v6), (16, eS 1 vi a2)] [] ?_
  refine jv (vi (a2.length : Int)) (cy (I0 17 (.len 0 (.t 16)))) (ok_len_m rfl) rfl ?_
  refine jv (vb (decide (v6 < a2.length))) (cy (I0 18 (.bin .lss false (.t 15) (.t 17)))) (n_lss (i := v6) (j := a2.length) rfl rfl) rfl ?_
  refine jp [(0, eS 2 eWantedPart a0), (1, eS 2 eOfferedPart a1), (2, eS 1 vi a2), (8, vi v5), (9, vi v6), (18, vb (decide (v6 < a2.length)))] ?_
  refine TriE.cond (b := decide (v6 < a2.length)) rfl (fun c2 => ?_) (fun c2 => ?_)
  · have h := cond_t h c2
    refine TriE.skip ?_
    refine TriE.seqK h (fun (v10 : Nat) => St.mk [(0, eS 2 eWantedPart a0), (1, eS 2 eOfferedPart a1), (2, eS 1 vi a2), (8, vi v10), (9, vi v6)] []) ?_ ?_
    · rintro v10 h
      refine TriE.regJ ?_
      refine rn 1 [(0, eS 2 eWantedPart a0), (1, eS 2 eOfferedPart a1), (2, eS 1 vi a2), (8, vi v10), (19, vi v6)] [] ?_
      obtain ⟨c13, h⟩ := chk_some h
      refine jv (vi ((v6 + 1 : Nat) : Int)) (cy (I0 20 (.bin .add false (.t 19) (.c (.p (.int .i64 1)))))) (r_addn (i := v6) (j := 1) rfl rfl c13) rfl ?_
      refine jq 1 [(0, eS 2 eWantedPart a0), (1, eS 2 eOfferedPart a1), (2, eS 1 vi a2), (8, vi v10), (9, vi ((v6 + 1 : Nat) : Int))] [] ?_
      exact Vs.intro sy ⟨(v10, v6 + 1), rfl, h⟩
    intro k1 h
    refine TriE.block ?_
    refine TriE.seq ?_
    refine sj ?_
    refine rn 2 [(0, eS 2 eWantedPart a0), (1, eS 2 eOfferedPart a1), (2, eS 1 vi a2), (8, vi v5), (9, vi v6), (21, eS 1 vi a2), (22, vi v6)] [] ?_
    refine jv (.fptr 1 (List.map vi a2) v6 0) (cy (I0 23 (.iaddr 1 (.t 21) (.t 22)))) (ok_iaddr_m (j := v6) rfl rfl rfl c2) rfl ?_
    refine jv (vi (ix a2 v6)) (cy (I0 24 (.load false 1 (.t 23)))) (ok_load_fm (v := vi (ix a2 v6)) rfl c2 rfl) rfl ?_
    refine jq 1 [(0, eS 2 eWantedPart a0), (1, eS 2 eOfferedPart a1), (2, eS 1 vi a2), (8, vi v5), (9, vi v6), (25, vb ((ix a2 v6) == ((-1) : Int)))] [] ?_
    refine TriE.cond (b := ((ix a2 v6) == ((-1) : Int))) rfl (fun c3 => ?_) (fun c3 => ?_)
    · have h := cond_t h c3
      refine TriE.exit ?_
      exact Vs.intro sy ⟨v5, rfl, h⟩
    have h := cond_f h c3
    refine TriE.skip ?_
    refine TriE.seq ?_
    refine sj ?_
    refine rn 2 [(0, eS 2 eWantedPart a0), (1, eS 2 eOfferedPart a1), (2, eS 1 vi a2), (8, vi v5), (9, vi v6), (26, eS 1 vi a2), (27, vi v6)] [] ?_
    refine jv (.fptr 1 (List.map vi a2) v6 0) (cy (I0 28 (.iaddr 1 (.t 26) (.t 27)))) (ok_iaddr_m (j := v6) rfl rfl rfl c2) rfl ?_
    refine jv (vi (ix a2 v6)) (cy (I0 29 (.load false 1 (.t 28)))) (ok_load_fm (v := vi (ix a2 v6)) rfl c2 rfl) rfl ?_
    refine rn 1 [(0, eS 2 eWantedPart a0), (1, eS 2 eOfferedPart a1), (2, eS 1 vi a2), (8, vi v5), (9, vi v6), (29, vi (ix a2 v6)), (30, eS 2 eOfferedPart a1)] [] ?_
    refine jv (vi (a1.length : Int)) (cy (I0 31 (.len 0 (.t 30)))) (ok_len_m rfl) rfl ?_
    obtain ⟨c4, h⟩ := chk_some h
    refine jv (vi ((a1.length : Int) - 1)) (cy (I0 32 (.bin .sub false (.t 31) (.c (.p (.int .i64 1)))))) (r_sub rfl rfl c4) rfl ?_
    obtain ⟨y7, hy7, h⟩ := bind_some h
    refine RegJ.op (Op1.call (y' := vb ((decide (0 ≤ (ix a2 v6))) && (decide ((ix a2 v6) ≤ ((a1.length : Int) - 1))))) (obx := []) (oby := []) (ob2 := []) _ _ (cy (I0 33 (.call 93 [(.t 29), (.c (.p (.int .i64 0))), (.t 32)]))) rfl (agraffebase_Within_ok n (ix a2 v6) 0 ((a1.length : Int) - 1) y7 hy7) [] (by kernel_rfl) (.cons rfl (.cons rfl (.cons rfl (.cons rfl .nil)))) (by kernel_rfl) (by kernel_rfl) ObsRen.nil (by kernel_rfl) ObsRen.nil (by kernel_rfl)) ?_
    refine jq 1 [(0, eS 2 eWantedPart a0), (1, eS 2 eOfferedPart a1), (2, eS 1 vi a2), (8, vi v5), (9, vi v6), (34, vb (!((decide (0 ≤ (ix a2 v6))) && (decide ((ix a2 v6) ≤ ((a1.length : Int) - 1))))))] [] ?_
    refine TriE.cond (b := !((decide (0 ≤ (ix a2 v6))) && (decide ((ix a2 v6) ≤ ((a1.length : Int) - 1))))) rfl (fun c5 => ?_) (fun c5 => ?_)
    · have h := cond_t h c5
      refine sr [(6, vi 0), (7, vi 6)] [] ?_
      refine TriE.ret ?_
      have h := Option.some.inj h
      subst h
      exact DoneS.ret (S' := ⟨[(6, vi 0), (7, vi 6)], []⟩) Sees.refl rfl rfl
    have h := cond_f h c5
    refine TriE.skip ?_
    refine TriE.seq ?_
    refine TriE.seq ?_
    refine TriE.sees (Sees.less (fr' := [(0, eS 2 eWantedPart a0), (1, eS 2 eOfferedPart a1), (2, eS 1 vi a2), (8, vi v5), (9, vi v6)]) (.cons rfl (.cons rfl (.cons rfl (.cons rfl (.cons rfl .nil)))))) ?_
    refine TriE.draw (by kernel_rfl) ?_
    refine RegD.run 2 [(36, vi v6), (35, eS 2 eWantedPart a0), (0, eS 2 eWantedPart a0), (1, eS 2 eOfferedPart a1), (2, eS 1 vi a2), (8, vi v5), (9, vi v6)] [none, none] (by kernel_rfl) ?_
    obtain ⟨c6, h⟩ := chk_some h
    refine dv (.fptr 2 (List.map eWantedPart a0) v6 0) (cy (I0 37 (.iaddr 2 (.t 35) (.t 36)))) (ok_iaddr_m (j := v6) rfl rfl rfl c6) rfl ?_
    refine dv (.agg [vt ((ix a0 v6).Name), eS 2 eRange ((ix a0 v6).Ranges)]) (cy (I0 38 (.load true 2 (.t 37)))) (ok_load_fm (v := .agg [vt ((ix a0 v6).Name), eS 2 eRange ((ix a0 v6).Ranges)]) rfl c6 rfl) rfl ?_
    refine RegD.run 3 [(41, vi v6), (40, eS 1 vi a2), (39, eS 2 eOfferedPart a1), (38, .agg [vt ((ix a0 v6).Name), eS 2 eRange ((ix a0 v6).Ranges)]), (37, .fptr 2 (List.map eWantedPart a0) v6 0), (36, vi v6), (35, eS 2 eWantedPart a0), (0, eS 2 eWantedPart a0), (1, eS 2 eOfferedPart a1), (2, eS 1 vi a2), (8, vi v5), (9, vi v6)] [none, none, none, none, none, none, none] (by kernel_rfl) ?_
    refine dv (.fptr 1 (List.map vi a2) v6 0) (cy (I0 42 (.iaddr 1 (.t 40) (.t 41)))) (ok_iaddr_m (j := v6) rfl rfl rfl c2) rfl ?_
    refine dv (vi (ix a2 v6)) (cy (I0 43 (.load false 1 (.t 42)))) (ok_load_fm (v := vi (ix a2 v6)) rfl c2 rfl) rfl ?_
    obtain ⟨c7, h⟩ := chk_some h
    refine dv (.fptr 2 (List.map eOfferedPart a1) ((ix a2 v6).toNat) 0) (cy (I0 44 (.iaddr 2 (.t 39) (.t 43)))) (ok_iaddr_m (j := (ix a2 v6).toNat) rfl rfl (inB_to c7) (inB_lt c7)) rfl ?_
    obtain ⟨c8, h⟩ := chk_some h
    refine dv (.agg [vt ((ix a1 ((ix a2 v6).toNat)).Name), eS 1 vi ((ix a1 ((ix a2 v6).toNat)).Sizes)]) (cy (I0 45 (.load true 2 (.t 44)))) (ok_load_fm (v := .agg [vt ((ix a1 ((ix a2 v6).toNat)).Name), eS 1 vi ((ix a1 ((ix a2 v6).toNat)).Sizes)]) rfl c8 rfl) rfl ?_
    obtain ⟨y8, hy8, h⟩ := bind_some h
    refine RegD.op (OpD.call (y' := vb y8) (obx := []) (oby := []) (ob2 := [none, none, none, none, none, none, none, none, none, none, none, none]) (tch := []) 0 _ _ (cy (I0 46 (.call 68 [(.t 38), (.t 45)]))) (agrafferef08_Fits_ok n (ix a0 v6) (ix a1 ((ix a2 v6).toNat)) y8 hy8) [] (by kernel_rfl) (.cons rfl (.cons rfl (.cons rfl .nil))) (by kernel_rfl) (by kernel_rfl) ObsRen.nil (by kernel_rfl) ObsRen.nil (by kernel_rfl) rfl (.inr ⟨rfl, rfl⟩)) ?_
    refine RegD.run 1 [(47, vb (!y8)), (46, vb y8), (45, .agg [vt ((ix a1 ((ix a2 v6).toNat)).Name), eS 1 vi ((ix a1 ((ix a2 v6).toNat)).Sizes)]), (44, .fptr 2 (List.map eOfferedPart a1) ((ix a2 v6).toNat) 0), (43, vi (ix a2 v6)), (42, .fptr 1 (List.map vi a2) v6 0), (41, vi v6), (40, eS 1 vi a2), (39, eS 2 eOfferedPart a1), (38, .agg [vt ((ix a0 v6).Name), eS 2 eRange ((ix a0 v6).Ranges)]), (37, .fptr 2 (List.map eWantedPart a0) v6 0), (36, vi v6), (35, eS 2 eWantedPart a0), (0, eS 2 eWantedPart a0), (1, eS 2 eOfferedPart a1), (2, eS 1 vi a2), (8, vi v5), (9, vi v6)] [none, none, none, none, none, none, none, none, none, none, none, none, none] (by kernel_rfl) ?_
    refine RegD.done rfl (by kernel_rfl) (S' := ⟨[(0, eS 2 eWantedPart a0), (1, eS 2 eOfferedPart a1), (2, eS 1 vi a2), (8, vi v5), (9, vi v6), (47, vb (!y8))], []⟩) (sc [] (by decide) (by kernel_rfl) ObRen.nil rfl rfl) ?_
    refine TriE.cond (b := !y8) rfl (fun c9 => ?_) (fun c9 => ?_)
    · have h := cond_t h c9
      refine sr [(6, vi 0), (7, vi 15)] [] ?_
      refine TriE.ret ?_
      have h := Option.some.inj h
      subst h
      exact DoneS.ret (S' := ⟨[(6, vi 0), (7, vi 15)], []⟩) Sees.refl rfl rfl
    have h := cond_f h c9
    refine TriE.skip ?_
    refine TriE.seq ?_
    refine TriE.seq ?_
    refine TriE.sees (Sees.less (fr' := [(0, eS 2 eWantedPart a0), (1, eS 2 eOfferedPart a1), (2, eS 1 vi a2), (8, vi v5), (9, vi v6)]) (.cons rfl (.cons rfl (.cons rfl (.cons rfl (.cons rfl .nil)))))) ?_
    refine TriE.draw (by kernel_rfl) ?_
    refine RegD.run 2 [(49, vi v6), (48, eS 1 vi a2), (0, eS 2 eWantedPart a0), (1, eS 2 eOfferedPart a1), (2, eS 1 vi a2), (8, vi v5), (9, vi v6)] [none, none] (by kernel_rfl) ?_
    obtain ⟨c10, h⟩ := chk_some h
    refine dv (eS 1 vi (List.take v6 a2)) (cy (I0 50 (.slc 1 (.t 48) none (some (.t 49)) none))) (ok_slc_hi (j := v6) rfl rfl rfl c10) rfl ?_
    refine RegD.run 2 [(52, vi v6), (51, eS 1 vi a2), (50, eS 1 vi (List.take v6 a2)), (49, vi v6), (48, eS 1 vi a2), (0, eS 2 eWantedPart a0), (1, eS 2 eOfferedPart a1), (2, eS 1 vi a2), (8, vi v5), (9, vi v6)] [none, none, none, none, none] (by kernel_rfl) ?_
    refine dv (.fptr 1 (List.map vi a2) v6 0) (cy (I0 53 (.iaddr 1 (.t 51) (.t 52)))) (ok_iaddr_m (j := v6) rfl rfl rfl c2) rfl ?_
    refine dv (vi (ix a2 v6)) (cy (I0 54 (.load false 1 (.t 53)))) (ok_load_fm (v := vi (ix a2 v6)) rfl c2 rfl) rfl ?_
    obtain ⟨y9, hy9, h⟩ := bind_some h
    refine RegD.op (OpD.call (y' := vb y9) (obx := []) (oby := []) (ob2 := [none, none, none, none, none, none, none, none]) (tch := []) 0 _ _ (cy (I0 55 (.call 130 [(.t 50), (.t 54)]))) (agraffebase_Has_ok n (List.take v6 a2) (ix a2 v6) y9 hy9) [] (by kernel_rfl) (.cons rfl (.cons rfl (.cons rfl .nil))) (by kernel_rfl) (by kernel_rfl) ObsRen.nil (by kernel_rfl) ObsRen.nil (by kernel_rfl) rfl (.inr ⟨rfl, rfl⟩)) ?_
    refine RegD.done rfl (by kernel_rfl) (S' := ⟨[(0, eS 2 eWantedPart a0), (1, eS 2 eOfferedPart a1), (2, eS 1 vi a2), (8, vi v5), (9, vi v6), (55, vb y9)], []⟩) (sc [] (by decide) (by kernel_rfl) ObRen.nil rfl rfl) ?_
    refine TriE.cond (b := y9) rfl (fun c11 => ?_) (fun c11 => ?_)
    · have h := cond_t h c11
      refine sr [(6, vi 0), (7, vi 17)] [] ?_
      refine TriE.ret ?_
      have h := Option.some.inj h
      subst h
      exact DoneS.ret (S' := ⟨[(6, vi 0), (7, vi 17)], []⟩) Sees.refl rfl rfl
    have h := cond_f h c11
    refine TriE.skip ?_
    refine TriE.regJ ?_
    refine rn 1 [(0, eS 2 eWantedPart a0), (1, eS 2 eOfferedPart a1), (2, eS 1 vi a2), (9, vi v6), (56, vi v5)] [] ?_
    obtain ⟨c12, h⟩ := chk_some h
    refine jv (vi ((v5 + 1 : Nat) : Int)) (cy (I0 57 (.bin .add false (.t 56) (.c (.p (.int .i64 1)))))) (r_addn (i := v5) (j := 1) rfl rfl c12) rfl ?_
    refine jq 1 [(0, eS 2 eWantedPart a0), (1, eS 2 eOfferedPart a1), (2, eS 1 vi a2), (9, vi v6), (8, vi ((v5 + 1 : Nat) : Int))] [] ?_
    exact Vs.intro sy ⟨(v5 + 1), rfl, h⟩
  have h := cond_f h c2
  refine TriE.exit ?_
  exact Vs.intro sy ⟨v5, rfl, h⟩
end Go.Proofs.YtcdcpambkdlhjaaGreat.As
