/- The code computes what the plain functions say, part 1: no condition. -/
import Derived.Test.YtcdcpambkdlhjaaGreatPlain1
import Derived.Test.YtcdcpambkdlhjaaGreatProg
namespace Go.Proofs.YtcdcpambkdlhjaaGreat.As
open Go Go.Proofs
set_option maxRecDepth 4000
def keepT : List (Nat × List Nat) := [(14, [0, 1, 2, 3, 4, 5, 6, 7]), (19, [0, 2, 3, 4, 7, 9, 10, 11, 17, 25]), (22, [0, 2, 3, 4, 7, 8, 9, 10, 11, 15, 20, 28]), (29, [0, 1, 4, 5, 6, 7, 8, 10, 11, 12, 17, 21, 22, 23, 24, 28, 29, 30, 35]), (33, [0, 1, 4, 5, 10, 14, 25]), (35, [0, 1, 4, 5, 10, 14, 26]), (39, [0, 1, 4, 5, 10, 14, 25]), (65, [0, 1, 2, 6, 7, 8, 9, 10, 11, 12, 13, 15, 16, 17, 19, 20, 22, 23, 24, 25, 26, 27, 28, 29, 30, 34, 39, 46, 50, 51, 52, 53, 63, 77, 78, 79, 80, 81, 85, 86, 87, 88, 127, 128, 129, 140, 144, 145, 146, 147, 155, 180]), (82, [0]), (83, [0]), (84, [0, 1, 2, 3, 4, 5, 6, 8, 9, 10, 11, 12, 13, 15, 16, 20, 24, 28, 31, 35, 36, 37, 38, 52, 53, 54, 55, 83, 84, 85, 86]), (85, [0, 1, 4, 5, 6, 7, 9, 10, 15, 20, 27, 38, 66, 69, 70, 71, 72, 77, 82]), (86, [0, 1, 3, 4, 5, 6, 7, 13]), (87, [2]), (89, [0, 2, 3, 4, 5, 7, 8, 9, 10, 45]), (90, [0, 1, 3, 4]), (91, [0, 1, 2, 6]), (96, [0, 1, 4, 5, 6, 7, 8, 9, 10, 14, 19]), (98, [0, 1, 4, 5, 6, 8, 13, 17, 18, 19, 20, 21, 39]), (99, [0, 2, 4]), (100, [0, 1, 4, 5, 7, 8, 9, 16]), (101, [0, 1, 2, 3]), (103, [0, 2]), (108, [0, 1, 4, 5, 6, 7, 8, 9, 10, 14, 19, 25]), (116, [0, 1, 4]), (117, [0, 1, 3, 4]), (118, [0, 1, 4]), (126, [0, 1, 4]), (131, [0, 1, 4, 6, 7, 8, 9, 10, 11, 17, 22, 34]), (132, [0, 1, 2, 4, 5, 6, 8, 9, 13, 14, 15, 16, 24]), (133, [0, 1, 4, 5, 7, 8, 9, 10, 11]), (134, [0, 1, 3, 4, 5, 10, 11, 12, 18, 39]), (135, [0, 1, 4, 5, 6, 7, 8, 9, 10, 11, 19]), (136, [0, 2, 3, 5, 6, 7, 8, 9, 14]), (137, [0, 1, 4, 5, 6, 11, 12, 13, 16, 19]), (138, [0, 1, 4, 5, 6, 7, 8, 9, 10, 11, 12, 19, 28, 35]), (145, [0, 1, 4, 5, 6, 11, 12, 13, 16, 19]), (146, [0, 1, 2]), (148, [0, 2]), (149, [0, 2, 3, 4, 7, 15]), (150, [0, 1]), (151, [0, 1, 2, 3, 4, 7]), (152, [0, 2]), (153, [0, 1, 2, 4]), (154, [0, 1, 4]), (155, [0, 1, 4, 5, 7, 8, 9, 16]), (156, [0, 1, 2, 3]), (157, [0, 1, 4, 5, 7, 8, 9, 16]), (158, [0, 1, 2, 3]), (162, [0, 1, 2, 12]), (163, [0, 1, 2, 3, 8, 9, 11, 12, 13, 17, 19, 20, 21, 22, 30, 34, 42]), (164, [0, 1, 2]), (165, [0, 1, 2, 3, 8, 9, 10, 11, 12, 13, 14, 15, 16, 17, 18, 23, 29, 35, 50, 68, 72, 87, 113]), (166, [0, 2]), (167, [0, 1, 4]), (168, [0, 1, 2, 3]), (170, [0, 1, 4, 5, 7, 8, 9, 16]), (171, [0, 1, 2, 3]), (172, [0, 1, 4, 5, 7, 8, 9, 16]), (180, [0, 1, 4, 5, 7, 8, 9, 16]), (181, [0, 1, 4]), (182, [0, 1, 3]), (183, [0, 2]), (186, [0, 2]), (187, [0, 2, 3, 5, 6, 8, 9, 10, 11, 12, 20, 25, 26, 27, 28]), (188, [0, 1, 2, 6, 7, 8, 9, 13, 30, 35, 54]), (189, [0, 1, 4, 5, 7, 8, 9, 16]), (190, [0, 1, 2, 6, 7, 12, 30]), (191, [0, 1, 2, 6, 7, 8, 9, 10, 19, 30]), (192, [0, 1, 2, 6, 7, 8, 9, 10, 15, 33, 43]), (193, [0, 1, 2, 6, 7, 8, 9, 10, 11, 12, 32, 34, 49, 51, 54]), (194, [0, 1, 2, 6, 7, 13]), (195, [0, 1, 2, 6, 7, 8, 9, 10, 14, 32, 37, 41, 61, 65, 78, 98, 103, 116]), (196, [0, 1, 4]), (197, [0, 1, 2, 3, 8, 9, 10, 43, 59, 64]), (198, [0, 1, 2, 3, 8, 9, 10, 11, 43, 60, 65, 112, 129, 134]), (199, [0, 2, 4, 8]), (200, [0, 2, 4, 8, 14]), (201, [0, 1, 4, 5, 7, 8, 9, 16]), (205, [0, 1, 4, 5, 7, 8, 9, 16]), (216, [0, 1, 4, 6, 16]), (217, [0, 1, 2, 3, 8, 9, 14, 34]), (218, [0, 1, 2, 3, 4, 10, 11, 12, 13, 14, 15, 16, 17, 18, 19, 20, 21, 22, 23, 24, 28, 33, 50, 58, 80, 85, 103, 110, 140, 151, 171, 185, 199, 213]), (219, [0, 1, 2, 3, 8, 9, 16, 36, 52]), (220, [0, 2]), (221, [0, 2]), (222, [0, 1, 2, 6]), (223, [0, 1, 2, 3, 4, 10]), (228, [0, 1, 2, 3, 4, 10, 11, 20, 23]), (229, [0, 1, 2, 3, 8, 9, 18]), (231, [0, 1, 2, 3, 10, 13])]
def keepOf (f : Nat) : List Nat := match keepT.find? (fun p => Nat.beq p.1 f) with
  | some p => p.2
  | none => []
theorem closed_ok : FnL Tryz.prog 14 [] [] (vb true) [] := funE_sound (by kernel_rfl) 200 false 14 [] [] _ _ (by kernel_rfl : funE Tryz.prog keepOf 1000 200 false 14 [] [] = some (vb true, []))
theorem agraffelaw08_awake_ok (n : Nat) (r : Bool) (h : agraffelaw08_awake n = some r) : FnL Tryz.prog 14 [] [] (vb r) [] := by
  cases h
  exact closed_ok
theorem agraffelaw08_stocked_ok (n : Nat) (a0 : List Stocked) (r : Bool) (h : agraffelaw08_stocked n a0 = some r) : FnL Tryz.prog 16 [eS 3 eStocked a0] [] (vb r) [] := by
  dsimp only [agraffelaw08_stocked] at h
  refine FnL.ofS (ts := [2]) Tryz.call16 Tryz.func16 rfl rfl (Nat.le_of_ble_eq_true rfl) (Nat.le_of_ble_eq_true rfl) (fun j h => absurd h (Nat.not_lt_zero j)) ?_
  refine sr [(0, eS 3 eStocked a0)] [] ?_
  refine TriE.seq ?_
  refine sj ?_
  refine rn 1 [(0, eS 3 eStocked a0), (4, eS 3 eStocked a0)] [] ?_
  refine jv (vi (a0.length : Int)) (cy (I0 5 (.len 0 (.t 4)))) (ok_len_m rfl) rfl ?_
  refine jv (vb (decide (8 < a0.length))) (cy (I0 6 (.bin .gtr false (.t 5) (.c (.p (.int .i64 8)))))) (n_gtr (i := a0.length) (j := 8) rfl rfl) rfl ?_
  refine rn 1 [(0, eS 3 eStocked a0), (7, vb (decide (8 < a0.length)))] [] ?_
  refine RegJ.op (Op1.valk (v := eS 3 eStocked a0) _ _ (cy (IG 8 (.mov (.t 0)) 7 true)) rfl (by kernel_rfl) (fun hg => (.cons rfl .nil))) ?_
  refine RegJ.op (Op1.valg (v := vi (a0.length : Int)) _ _ (cy (IG 9 (.len 0 (.t 8)) 7 true)) rfl (fun hg => (ok_len_m rfl)) (fun hg => (.cons hg .nil))) ?_
  refine RegJ.op (Op1.valg (v := vb (decide (a0.length ≤ 60))) _ _ (cy (IG 10 (.bin .leq false (.t 9) (.c (.p (.int .i64 60)))) 7 true)) rfl (fun hg => (n_leq (i := a0.length) (j := 60) rfl rfl)) (fun hg => (.cons hg (.cons rfl .nil)))) ?_
  refine RegJ.op (Op1.and (cy (I0 11 (.pick (.t 7) (.t 10) (.c (.p (.bool false)))))) rfl rfl (by first | exact hokA1 | exact hokA0 | simp)) ?_
  refine rn 1 [(0, eS 3 eStocked a0), (12, vb ((decide (8 < a0.length)) && (decide (a0.length ≤ 60))))] [] ?_
  refine RegJ.op (Op1.valk (v := eS 3 eStocked a0) _ _ (cy (IG 13 (.mov (.t 0)) 12 false)) rfl (by kernel_rfl) (fun hg => (.cons rfl .nil))) ?_
  refine RegJ.op (Op1.valg (v := vi (a0.length : Int)) _ _ (cy (IG 14 (.len 0 (.t 13)) 12 false)) rfl (fun hg => (ok_len_m rfl)) (fun hg => (.cons hg .nil))) ?_
  refine RegJ.op (Op1.valg (v := vb (decide (63 < a0.length))) _ _ (cy (IG 15 (.bin .gtr false (.t 14) (.c (.p (.int .i64 63)))) 12 false)) rfl (fun hg => (n_gtr (i := a0.length) (j := 63) rfl rfl)) (fun hg => (.cons hg (.cons rfl .nil)))) ?_
  refine RegJ.op (Op1.or (cy (I0 16 (.pick (.t 12) (.c (.p (.bool true))) (.t 15)))) rfl rfl (by first | exact hokO1 | exact hokO0 | simp)) ?_
  refine jp [(0, eS 3 eStocked a0), (16, vb (((decide (8 < a0.length)) && (decide (a0.length ≤ 60))) || (decide (63 < a0.length))))] ?_
  refine TriE.cond (b := ((decide (8 < a0.length)) && (decide (a0.length ≤ 60))) || (decide (63 < a0.length))) rfl (fun c1 => ?_) (fun c1 => ?_)
  · have h := cond_t h c1
    refine sr [(2, vb false)] [] ?_
    refine TriE.ret ?_
    have h := Option.some.inj h
    subst h
    exact DoneS.ret (S' := ⟨[(2, vb false)], []⟩) Sees.refl rfl rfl
  have h := cond_f h c1
  refine TriE.skip ?_
  refine TriE.seqK h (fun (_ : Unit) => St.mk [] []) ?_ ?_
  · rintro ⟨⟩ h
    refine sr [(2, vb true)] [] ?_
    refine TriE.ret ?_
    have h := Option.some.inj h
    subst h
    exact DoneS.ret (S' := ⟨[(2, vb true)], []⟩) Sees.refl rfl rfl
  intro k1 h
  refine sr [(0, eS 3 eStocked a0), (3, vi 0)] [] ?_
  refine TriE.block ?_
  refine TriE.sees (S' := ⟨[(0, eS 3 eStocked a0), (3, vi 0)], []⟩) sy ?_
  refine TriE.loopN h (fun (v1 : Nat) => St.mk [(0, eS 3 eStocked a0), (3, vi v1)] []) rfl ?_
  clear h
  rintro back v1 h
  dsimp only [agraffelaw08_stocked_L1] at h
  refine TriE.seq ?_
  refine sj ?_
  refine rn 2 [(0, eS 3 eStocked a0), (3, vi v1), (17, vi v1), (18, eS 3 eStocked a0)] [] ?_
  refine jv (vi (a0.length : Int)) (cy (I0 19 (.len 0 (.t 18)))) (ok_len_m rfl) rfl ?_
  refine jv (vb (decide (v1 < a0.length))) (cy (I0 20 (.bin .lss false (.t 17) (.t 19)))) (n_lss (i := v1) (j := a0.length) rfl rfl) rfl ?_
  refine jp [(0, eS 3 eStocked a0), (3, vi v1), (20, vb (decide (v1 < a0.length)))] ?_
  refine TriE.cond (b := decide (v1 < a0.length)) rfl (fun c2 => ?_) (fun c2 => ?_)
  · have h := cond_t h c2
    refine TriE.skip ?_
    refine TriE.seq ?_
    refine TriE.block ?_
    refine sj ?_
    refine rn 2 [(0, eS 3 eStocked a0), (3, vi v1), (23, eS 3 eStocked a0), (24, vi v1)] [] ?_
    refine jv (.fptr 3 (List.map eStocked a0) v1 0) (cy (I0 25 (.iaddr 3 (.t 23) (.t 24)))) (ok_iaddr_m (j := v1) rfl rfl rfl c2) rfl ?_
    refine rn 1 [(0, eS 3 eStocked a0), (3, vi v1), (26, .fptr 3 (List.map eStocked a0) v1 0)] [] ?_
    refine jv (vt ((ix a0 v1).Part)) (cy (I0 27 (.load false 1 (.t 26)))) (ok_load_fm (v := vt ((ix a0 v1).Part)) rfl c2 rfl) rfl ?_
    refine jv (vi ((((ix a0 v1).Part).length : Nat) : Int)) (cy (I0 28 (.len 1 (.t 27)))) (ok_len_t rfl) rfl ?_
    refine jv (vb (decide (20 < (((ix a0 v1).Part).length)))) (cy (I0 29 (.bin .gtr false (.t 28) (.c (.p (.int .i64 20)))))) (n_gtr (i := ((ix a0 v1).Part).length) (j := 20) rfl rfl) rfl ?_
    refine jp [(0, eS 3 eStocked a0), (3, vi v1), (29, vb (decide (20 < (((ix a0 v1).Part).length))))] ?_
    refine TriE.cond (b := decide (20 < (((ix a0 v1).Part).length))) rfl (fun c3 => ?_) (fun c3 => ?_)
    · have h := cond_t h c3
      refine sr [(2, vb false)] [] ?_
      refine TriE.ret ?_
      have h := Option.some.inj h
      subst h
      exact DoneS.ret (S' := ⟨[(2, vb false)], []⟩) Sees.refl rfl rfl
    have h := cond_f h c3
    refine TriE.skip ?_
    refine TriE.regJ ?_
    refine rn 1 [(0, eS 3 eStocked a0), (21, vi v1)] [] ?_
    obtain ⟨c4, h⟩ := chk_some h
    refine jv (vi ((v1 + 1 : Nat) : Int)) (cy (I0 22 (.bin .add false (.t 21) (.c (.p (.int .i64 1)))))) (r_addn (i := v1) (j := 1) rfl rfl c4) rfl ?_
    refine jq 1 [(0, eS 3 eStocked a0), (3, vi ((v1 + 1 : Nat) : Int))] [] ?_
    exact Vs.intro sy ⟨(v1 + 1), rfl, h⟩
  have h := cond_f h c2
  refine TriE.exit ?_
  exact Vs.intro sy ⟨(), rfl, h⟩
theorem agraffelaw08_promised_ok (n : Nat) (a0 : List PartPromise) (r : Bool) (h : agraffelaw08_promised n a0 = some r) : FnL Tryz.prog 40 [eS 3 ePartPromise a0] [] (vb r) [] := by
  dsimp only [agraffelaw08_promised] at h
  refine FnL.ofS (ts := [2]) Tryz.call40 Tryz.func40 rfl rfl (Nat.le_of_ble_eq_true rfl) (Nat.le_of_ble_eq_true rfl) (fun j h => absurd h (Nat.not_lt_zero j)) ?_
  refine sr [(0, eS 3 ePartPromise a0)] [] ?_
  refine TriE.seq ?_
  refine sj ?_
  refine rn 1 [(0, eS 3 ePartPromise a0), (4, eS 3 ePartPromise a0)] [] ?_
  refine jv (vi (a0.length : Int)) (cy (I0 5 (.len 0 (.t 4)))) (ok_len_m rfl) rfl ?_
  refine jv (vb (decide (12 < a0.length))) (cy (I0 6 (.bin .gtr false (.t 5) (.c (.p (.int .i64 12)))))) (n_gtr (i := a0.length) (j := 12) rfl rfl) rfl ?_
  refine rn 1 [(0, eS 3 ePartPromise a0), (7, vb (decide (12 < a0.length)))] [] ?_
  refine RegJ.op (Op1.valk (v := eS 3 ePartPromise a0) _ _ (cy (IG 8 (.mov (.t 0)) 7 true)) rfl (by kernel_rfl) (fun hg => (.cons rfl .nil))) ?_
  refine RegJ.op (Op1.valg (v := vi (a0.length : Int)) _ _ (cy (IG 9 (.len 0 (.t 8)) 7 true)) rfl (fun hg => (ok_len_m rfl)) (fun hg => (.cons hg .nil))) ?_
  refine RegJ.op (Op1.valg (v := vb (decide (a0.length ≤ 200))) _ _ (cy (IG 10 (.bin .leq false (.t 9) (.c (.p (.int .i64 200)))) 7 true)) rfl (fun hg => (n_leq (i := a0.length) (j := 200) rfl rfl)) (fun hg => (.cons hg (.cons rfl .nil)))) ?_
  refine RegJ.op (Op1.and (cy (I0 11 (.pick (.t 7) (.t 10) (.c (.p (.bool false)))))) rfl rfl (by first | exact hokA1 | exact hokA0 | simp)) ?_
  refine rn 1 [(0, eS 3 ePartPromise a0), (12, vb ((decide (12 < a0.length)) && (decide (a0.length ≤ 200))))] [] ?_
  refine RegJ.op (Op1.valk (v := eS 3 ePartPromise a0) _ _ (cy (IG 13 (.mov (.t 0)) 12 false)) rfl (by kernel_rfl) (fun hg => (.cons rfl .nil))) ?_
  refine RegJ.op (Op1.valg (v := vi (a0.length : Int)) _ _ (cy (IG 14 (.len 0 (.t 13)) 12 false)) rfl (fun hg => (ok_len_m rfl)) (fun hg => (.cons hg .nil))) ?_
  refine RegJ.op (Op1.valg (v := vb (decide (203 < a0.length))) _ _ (cy (IG 15 (.bin .gtr false (.t 14) (.c (.p (.int .i64 203)))) 12 false)) rfl (fun hg => (n_gtr (i := a0.length) (j := 203) rfl rfl)) (fun hg => (.cons hg (.cons rfl .nil)))) ?_
  refine RegJ.op (Op1.or (cy (I0 16 (.pick (.t 12) (.c (.p (.bool true))) (.t 15)))) rfl rfl (by first | exact hokO1 | exact hokO0 | simp)) ?_
  refine jp [(0, eS 3 ePartPromise a0), (16, vb (((decide (12 < a0.length)) && (decide (a0.length ≤ 200))) || (decide (203 < a0.length))))] ?_
  refine TriE.cond (b := ((decide (12 < a0.length)) && (decide (a0.length ≤ 200))) || (decide (203 < a0.length))) rfl (fun c1 => ?_) (fun c1 => ?_)
  · have h := cond_t h c1
    refine sr [(2, vb false)] [] ?_
    refine TriE.ret ?_
    have h := Option.some.inj h
    subst h
    exact DoneS.ret (S' := ⟨[(2, vb false)], []⟩) Sees.refl rfl rfl
  have h := cond_f h c1
  refine TriE.skip ?_
  refine TriE.seqK h (fun (_ : Unit) => St.mk [] []) ?_ ?_
  · rintro ⟨⟩ h
    refine sr [(2, vb true)] [] ?_
    refine TriE.ret ?_
    have h := Option.some.inj h
    subst h
    exact DoneS.ret (S' := ⟨[(2, vb true)], []⟩) Sees.refl rfl rfl
  intro k1 h
  refine sr [(0, eS 3 ePartPromise a0), (3, vi 0)] [] ?_
  refine TriE.block ?_
  refine TriE.sees (S' := ⟨[(0, eS 3 ePartPromise a0), (3, vi 0)], []⟩) sy ?_
  refine TriE.loopN h (fun (v1 : Nat) => St.mk [(0, eS 3 ePartPromise a0), (3, vi v1)] []) rfl ?_
  clear h
  rintro back v1 h
  dsimp only [agraffelaw08_promised_L1] at h
  refine TriE.seq ?_
  refine sj ?_
  refine rn 2 [(0, eS 3 ePartPromise a0), (3, vi v1), (17, vi v1), (18, eS 3 ePartPromise a0)] [] ?_
  refine jv (vi (a0.length : Int)) (cy (I0 19 (.len 0 (.t 18)))) (ok_len_m rfl) rfl ?_
  refine jv (vb (decide (v1 < a0.length))) (cy (I0 20 (.bin .lss false (.t 17) (.t 19)))) (n_lss (i := v1) (j := a0.length) rfl rfl) rfl ?_
  refine jp [(0, eS 3 ePartPromise a0), (3, vi v1), (20, vb (decide (v1 < a0.length)))] ?_
  refine TriE.cond (b := decide (v1 < a0.length)) rfl (fun c2 => ?_) (fun c2 => ?_)
  · have h := cond_t h c2
    refine TriE.skip ?_
    refine TriE.seq ?_
    refine TriE.block ?_
    refine sj ?_
    refine rn 2 [(0, eS 3 ePartPromise a0), (3, vi v1), (23, eS 3 ePartPromise a0), (24, vi v1)] [] ?_
    refine jv (.fptr 3 (List.map ePartPromise a0) v1 0) (cy (I0 25 (.iaddr 3 (.t 23) (.t 24)))) (ok_iaddr_m (j := v1) rfl rfl rfl c2) rfl ?_
    refine rn 1 [(0, eS 3 ePartPromise a0), (3, vi v1), (26, .fptr 3 (List.map ePartPromise a0) v1 0)] [] ?_
    refine jv (vt ((ix a0 v1).Instrument)) (cy (I0 27 (.load false 1 (.t 26)))) (ok_load_fm (v := vt ((ix a0 v1).Instrument)) rfl c2 rfl) rfl ?_
    refine jv (vi ((((ix a0 v1).Instrument).length : Nat) : Int)) (cy (I0 28 (.len 1 (.t 27)))) (ok_len_t rfl) rfl ?_
    refine jv (vb (decide (20 < (((ix a0 v1).Instrument).length)))) (cy (I0 29 (.bin .gtr false (.t 28) (.c (.p (.int .i64 20)))))) (n_gtr (i := ((ix a0 v1).Instrument).length) (j := 20) rfl rfl) rfl ?_
    refine rn 1 [(0, eS 3 ePartPromise a0), (3, vi v1), (30, vb (decide (20 < (((ix a0 v1).Instrument).length))))] [] ?_
    refine RegJ.op (Op1.valk (v := eS 3 ePartPromise a0) _ _ (cy (IG 31 (.mov (.t 0)) 30 false)) rfl (by kernel_rfl) (fun hg => (.cons rfl .nil))) ?_
    refine RegJ.op (Op1.valk (v := vi v1) _ _ (cy (IG 32 (.mov (.t 3)) 30 false)) rfl (by kernel_rfl) (fun hg => (.cons rfl .nil))) ?_
    refine RegJ.op (Op1.valg (v := .fptr 3 (List.map ePartPromise a0) v1 0) _ _ (cy (IG 33 (.iaddr 3 (.t 31) (.t 32)) 30 false)) rfl (fun hg => (ok_iaddr_m (j := v1) rfl rfl rfl c2)) (fun hg => (.cons hg (.cons hg .nil)))) ?_
    refine RegJ.op (Op1.valk (v := .fptr 3 (List.map ePartPromise a0) v1 1) _ _ (cy (IG 34 (.faddr 1 (.t 33)) 30 false)) rfl (by kernel_rfl) (fun hg => (.cons hg .nil))) ?_
    refine RegJ.op (Op1.valg (v := vt ((ix a0 v1).Part)) _ _ (cy (IG 35 (.load false 1 (.t 34)) 30 false)) rfl (fun hg => (ok_load_fm (v := vt ((ix a0 v1).Part)) rfl c2 rfl)) (fun hg => (.cons hg .nil))) ?_
    refine RegJ.op (Op1.valg (v := vi ((((ix a0 v1).Part).length : Nat) : Int)) _ _ (cy (IG 36 (.len 1 (.t 35)) 30 false)) rfl (fun hg => (ok_len_t rfl)) (fun hg => (.cons hg .nil))) ?_
    refine RegJ.op (Op1.valg (v := vb (decide (20 < (((ix a0 v1).Part).length)))) _ _ (cy (IG 37 (.bin .gtr false (.t 36) (.c (.p (.int .i64 20)))) 30 false)) rfl (fun hg => (n_gtr (i := ((ix a0 v1).Part).length) (j := 20) rfl rfl)) (fun hg => (.cons hg (.cons rfl .nil)))) ?_
    refine RegJ.op (Op1.or (cy (I0 38 (.pick (.t 30) (.c (.p (.bool true))) (.t 37)))) rfl rfl (by first | exact hokO1 | exact hokO0 | simp)) ?_
    refine jp [(0, eS 3 ePartPromise a0), (3, vi v1), (38, vb ((decide (20 < (((ix a0 v1).Instrument).length))) || (decide (20 < (((ix a0 v1).Part).length)))))] ?_
    refine TriE.cond (b := (decide (20 < (((ix a0 v1).Instrument).length))) || (decide (20 < (((ix a0 v1).Part).length)))) rfl (fun c3 => ?_) (fun c3 => ?_)
    · have h := cond_t h c3
      refine sr [(2, vb false)] [] ?_
      refine TriE.ret ?_
      have h := Option.some.inj h
      subst h
      exact DoneS.ret (S' := ⟨[(2, vb false)], []⟩) Sees.refl rfl rfl
    have h := cond_f h c3
    refine TriE.skip ?_
    refine TriE.regJ ?_
    refine rn 1 [(0, eS 3 ePartPromise a0), (21, vi v1)] [] ?_
    obtain ⟨c4, h⟩ := chk_some h
    refine jv (vi ((v1 + 1 : Nat) : Int)) (cy (I0 22 (.bin .add false (.t 21) (.c (.p (.int .i64 1)))))) (r_addn (i := v1) (j := 1) rfl rfl c4) rfl ?_
    refine jq 1 [(0, eS 3 ePartPromise a0), (3, vi ((v1 + 1 : Nat) : Int))] [] ?_
    exact Vs.intro sy ⟨(v1 + 1), rfl, h⟩
  have h := cond_f h c2
  refine TriE.exit ?_
  exact Vs.intro sy ⟨(), rfl, h⟩
theorem agraffelaw08_stock_ok (n : Nat) (a0 : List Stocked) (r : Unit) (h : agraffelaw08_stock n a0 = some r) : FnL Tryz.prog 23 [eS 3 eStocked a0] [] (eS 3 eStocked a0) [] := by
  dsimp only [agraffelaw08_stock] at h
  refine FnL.ofS (ts := [2]) Tryz.call23 Tryz.func23 rfl rfl (Nat.le_of_ble_eq_true rfl) (Nat.le_of_ble_eq_true rfl) (fun j h => absurd h (Nat.not_lt_zero j)) ?_
  refine sr [(0, eS 3 eStocked a0)] [] ?_
  refine sj ?_
  refine rn 2 [(3, .emp), (4, eS 3 eStocked a0)] [] ?_
  obtain ⟨c1, h⟩ := chk_some h
  refine je (.own 0 0 a0.length) [some (.row 3 (List.map eStocked a0))] (cy (I0 5 (.app 3 32 (.t 3) (.t 4)))) (ok_app_emp (e := eStocked) (l := a0) (u := eS 3 eStocked a0) rfl rfl els_sl c1) rfl rfl rfl ?_
  refine jq 1 [(2, .own 0 0 a0.length)] [some (.row 3 (List.map eStocked a0))] ?_
  refine TriE.ret ?_
  have h := Option.some.inj h
  subst h
  exact DoneS.ret (S' := ⟨[(2, eS 3 eStocked a0)], []⟩) (Sees.trans (Sees.freeze 0 (fr' := [(2, eS 3 eStocked a0)]) (ob' := [none]) rfl (frz_row eStocked_frzE _) (.cons (frz_full rfl) .nil) rfl) (sc [] (by decide) (by kernel_rfl) ObRen.nil rfl rfl)) rfl rfl
theorem agraffelaw08_promises_ok (n : Nat) (a0 : List PartPromise) (r : Unit) (h : agraffelaw08_promises n a0 = some r) : FnL Tryz.prog 42 [eS 3 ePartPromise a0] [] (eS 3 ePartPromise a0) [] := by
  dsimp only [agraffelaw08_promises] at h
  refine FnL.ofS (ts := [2]) Tryz.call42 Tryz.func42 rfl rfl (Nat.le_of_ble_eq_true rfl) (Nat.le_of_ble_eq_true rfl) (fun j h => absurd h (Nat.not_lt_zero j)) ?_
  refine sr [(0, eS 3 ePartPromise a0)] [] ?_
  refine sj ?_
  refine rn 2 [(3, .emp), (4, eS 3 ePartPromise a0)] [] ?_
  obtain ⟨c1, h⟩ := chk_some h
  refine je (.own 0 0 a0.length) [some (.row 3 (List.map ePartPromise a0))] (cy (I0 5 (.app 3 40 (.t 3) (.t 4)))) (ok_app_emp (e := ePartPromise) (l := a0) (u := eS 3 ePartPromise a0) rfl rfl els_sl c1) rfl rfl rfl ?_
  refine jq 1 [(2, .own 0 0 a0.length)] [some (.row 3 (List.map ePartPromise a0))] ?_
  refine TriE.ret ?_
  have h := Option.some.inj h
  subst h
  exact DoneS.ret (S' := ⟨[(2, eS 3 ePartPromise a0)], []⟩) (Sees.trans (Sees.freeze 0 (fr' := [(2, eS 3 ePartPromise a0)]) (ob' := [none]) rfl (frz_row ePartPromise_frzE _) (.cons (frz_full rfl) .nil) rfl) (sc [] (by decide) (by kernel_rfl) ObRen.nil rfl rfl)) rfl rfl
theorem restore_isName_ok (n : Nat) (a0 : Str) (r : Bool) (h : restore_isName n a0 = some r) : FnL Tryz.prog 89 [vt a0] [] (vb r) [] := by
  dsimp only [restore_isName] at h
  refine FnL.ofS (ts := [2]) Tryz.call89 Tryz.func89 rfl rfl (Nat.le_of_ble_eq_true rfl) (Nat.le_of_ble_eq_true rfl) (fun j h => absurd h (Nat.not_lt_zero j)) ?_
  refine sr [(0, vt a0)] [] ?_
  refine TriE.seqK h (fun (_ : Unit) => St.mk [(0, vt a0)] []) ?_ ?_
  · rintro ⟨⟩ h
    refine sj ?_
    refine rn 3 [(0, vt a0), (49, vb (!(a0 == ([] : Str))))] [] ?_
    refine RegJ.op (Op1.valk (v := vt a0) _ _ (cy (IG 50 (.mov (.t 0)) 49 true)) rfl (by kernel_rfl) (fun hg => (.cons rfl .nil))) ?_
    refine RegJ.op (Op1.valg (v := vi (a0.length : Int)) _ _ (cy (IG 51 (.len 1 (.t 50)) 49 true)) rfl (fun hg => (ok_len_t rfl)) (fun hg => (.cons hg .nil))) ?_
    refine RegJ.op (Op1.valg (v := vb (decide (a0.length ≤ 12))) _ _ (cy (IG 52 (.bin .leq false (.t 51) (.c (.p (.int .i64 12)))) 49 true)) rfl (fun hg => (n_leq (i := a0.length) (j := 12) rfl rfl)) (fun hg => (.cons hg (.cons rfl .nil)))) ?_
    refine RegJ.op (Op1.and (cy (I0 53 (.pick (.t 49) (.t 52) (.c (.p (.bool false)))))) rfl rfl (by first | exact hokA1 | exact hokA0 | simp)) ?_
    refine jq 1 [(2, vb ((!(a0 == ([] : Str))) && (decide (a0.length ≤ 12))))] [] ?_
    refine TriE.ret ?_
    have h := Option.some.inj h
    subst h
    exact DoneS.ret (S' := ⟨[(2, vb ((!(a0 == ([] : Str))) && (decide (a0.length ≤ 12))))], []⟩) Sees.refl rfl rfl
  intro k1 h
  refine sj ?_
  refine rn 1 [(0, vt a0), (6, vt a0)] [] ?_
  refine RegJ.op (Op1.bytes (s := ⟨⟨a0⟩⟩) _ (cy (I0 7 (.bytes (.t 6)))) rfl (.cons rfl .nil)) ?_
  refine jv (vi (a0.length : Int)) (cy (I0 8 (.len 0 (.t 7)))) (ok_len_m rfl) rfl ?_
  refine jq 1 [(0, vt a0), (7, eS 1 vbyte a0), (8, vi (a0.length : Int)), (9, vi 0)] [] ?_
  refine TriE.block ?_
  refine TriE.sees (S' := ⟨[(0, vt a0), (7, eS 1 vbyte a0), (8, vi (a0.length : Int)), (9, vi 0)], []⟩) sy ?_
  refine TriE.loopN h (fun (v1 : Nat) => St.mk [(0, vt a0), (7, eS 1 vbyte a0), (8, vi (a0.length : Int)), (9, vi v1)] []) rfl ?_
  clear h
  rintro back v1 h
  dsimp only [restore_isName_L1] at h
  refine sj ?_
  refine jv (vb (decide (v1 < a0.length))) (cy (I0 10 (.bin .lss false (.t 9) (.t 8)))) (n_lss (i := v1) (j := a0.length) rfl rfl) rfl ?_
  refine jp [(0, vt a0), (7, eS 1 vbyte a0), (8, vi (a0.length : Int)), (9, vi v1), (10, vb (decide (v1 < a0.length)))] ?_
  refine TriE.seq ?_
  refine TriE.cond (b := decide (v1 < a0.length)) rfl (fun c1 => ?_) (fun c1 => ?_)
  · have h := cond_t h c1
    refine TriE.skip ?_
    refine TriE.seq ?_
    refine TriE.block ?_
    refine sj ?_
    refine rn 1 [(0, vt a0), (7, eS 1 vbyte a0), (8, vi (a0.length : Int)), (9, vi v1), (11, vi v1)] [] ?_
    refine jv (.fptr 1 (List.map vbyte a0) v1 0) (cy (I0 12 (.iaddr 1 (.t 7) (.t 9)))) (ok_iaddr_m (j := v1) rfl rfl rfl c1) rfl ?_
    refine jv (vk .u8 (((ix a0 v1).toNat : Nat) : Int)) (cy (I0 13 (.load false 1 (.t 12)))) (ok_load_fm (v := vk .u8 (((ix a0 v1).toNat : Nat) : Int)) rfl c1 rfl) rfl ?_
    refine jq 2 [(0, vt a0), (7, eS 1 vbyte a0), (8, vi (a0.length : Int)), (9, vi v1), (3, vi v1), (4, vk .u8 (((ix a0 v1).toNat : Nat) : Int))] [] ?_
    refine sj ?_
    refine rn 3 [(0, vt a0), (7, eS 1 vbyte a0), (8, vi (a0.length : Int)), (9, vi v1), (3, vi v1), (4, vk .u8 (((ix a0 v1).toNat : Nat) : Int)), (16, vb (decide ((97 : Int) ≤ (((ix a0 v1).toNat : Nat) : Int))))] [] ?_
    refine RegJ.op (Op1.valk (v := vk .u8 (((ix a0 v1).toNat : Nat) : Int)) _ _ (cy (IG 17 (.mov (.t 4)) 16 true)) rfl (by kernel_rfl) (fun hg => (.cons rfl .nil))) ?_
    refine RegJ.op (Op1.valk (v := vb (decide ((((ix a0 v1).toNat : Nat) : Int) ≤ (122 : Int)))) _ _ (cy (IG 18 (.bin .leq false (.t 17) (.c (.p (.int .u8 122)))) 16 true)) rfl (by kernel_rfl) (fun hg => (.cons hg (.cons rfl .nil)))) ?_
    refine RegJ.op (Op1.and (cy (I0 19 (.pick (.t 16) (.t 18) (.c (.p (.bool false)))))) rfl rfl (by first | exact hokA1 | exact hokA0 | simp)) ?_
    refine rn 1 [(0, vt a0), (7, eS 1 vbyte a0), (8, vi (a0.length : Int)), (9, vi v1), (3, vi v1), (4, vk .u8 (((ix a0 v1).toNat : Nat) : Int)), (17, .cond (decide ((97 : Int) ≤ (((ix a0 v1).toNat : Nat) : Int))) (vk .u8 (((ix a0 v1).toNat : Nat) : Int))), (18, .cond (decide ((97 : Int) ≤ (((ix a0 v1).toNat : Nat) : Int))) (vb (decide ((((ix a0 v1).toNat : Nat) : Int) ≤ (122 : Int))))), (20, vb ((decide ((97 : Int) ≤ (((ix a0 v1).toNat : Nat) : Int))) && (decide ((((ix a0 v1).toNat : Nat) : Int) ≤ (122 : Int)))))] [] ?_
    refine RegJ.op (Op1.valk (v := vk .u8 (((ix a0 v1).toNat : Nat) : Int)) _ _ (cy (IG 21 (.mov (.t 4)) 20 false)) rfl (by kernel_rfl) (fun hg => (.cons rfl .nil))) ?_
    refine RegJ.op (Op1.valk (v := vb (decide ((65 : Int) ≤ (((ix a0 v1).toNat : Nat) : Int)))) _ _ (cy (IG 22 (.bin .geq false (.t 21) (.c (.p (.int .u8 65)))) 20 false)) rfl (by kernel_rfl) (fun hg => (.cons hg (.cons rfl .nil)))) ?_
    refine RegJ.op (Op1.valk (v := vb (decide ((65 : Int) ≤ (((ix a0 v1).toNat : Nat) : Int)))) _ _ (cy (IG 23 (.mov (.t 22)) 20 false)) rfl (by kernel_rfl) (fun hg => (.cons hg .nil))) ?_
    refine RegJ.op (Op1.valk (v := vk .u8 (((ix a0 v1).toNat : Nat) : Int)) _ _ (cy (IG 24 (.mov (.t 4)) 23 true)) rfl (by kernel_rfl) (fun hg => (.cons rfl .nil))) ?_
    refine RegJ.op (Op1.valk (v := vb (decide ((((ix a0 v1).toNat : Nat) : Int) ≤ (90 : Int)))) _ _ (cy (IG 25 (.bin .leq false (.t 24) (.c (.p (.int .u8 90)))) 23 true)) rfl (by kernel_rfl) (fun hg => (.cons hg (.cons rfl .nil)))) ?_
    refine RegJ.op (Op1.andg (g := !((decide ((97 : Int) ≤ (((ix a0 v1).toNat : Nat) : Int))) && (decide ((((ix a0 v1).toNat : Nat) : Int) ≤ (122 : Int))))) (cy (IG 26 (.pick (.t 23) (.t 25) (.c (.p (.bool false)))) 20 false)) rfl rfl rfl (fun hg => by first | exact hokA2 hg | exact hokA3 hg | exact hokA1 | exact hokA0 | (rw [hg]; simp) | simp_all)) ?_
    refine RegJ.op (Op1.or (cy (I0 27 (.pick (.t 20) (.c (.p (.bool true))) (.t 26)))) rfl rfl (by first | exact hokO1 | exact hokO0 | simp)) ?_
    refine jq 1 [(0, vt a0), (7, eS 1 vbyte a0), (8, vi (a0.length : Int)), (9, vi v1), (3, vi v1), (4, vk .u8 (((ix a0 v1).toNat : Nat) : Int)), (5, vb (((decide ((97 : Int) ≤ (((ix a0 v1).toNat : Nat) : Int))) && (decide ((((ix a0 v1).toNat : Nat) : Int) ≤ (122 : Int)))) || ((decide ((65 : Int) ≤ (((ix a0 v1).toNat : Nat) : Int))) && (decide ((((ix a0 v1).toNat : Nat) : Int) ≤ (90 : Int))))))] [] ?_
    refine sj ?_
    refine rn 3 [(0, vt a0), (7, eS 1 vbyte a0), (8, vi (a0.length : Int)), (9, vi v1), (3, vi v1), (4, vk .u8 (((ix a0 v1).toNat : Nat) : Int)), (30, vb (!(((decide ((97 : Int) ≤ (((ix a0 v1).toNat : Nat) : Int))) && (decide ((((ix a0 v1).toNat : Nat) : Int) ≤ (122 : Int)))) || ((decide ((65 : Int) ≤ (((ix a0 v1).toNat : Nat) : Int))) && (decide ((((ix a0 v1).toNat : Nat) : Int) ≤ (90 : Int)))))))] [] ?_
    refine RegJ.op (Op1.valk (v := vi v1) _ _ (cy (IG 31 (.mov (.t 3)) 30 true)) rfl (by kernel_rfl) (fun hg => (.cons rfl .nil))) ?_
    refine RegJ.op (Op1.valg (v := vb (decide (v1 = 0))) _ _ (cy (IG 32 (.bin .eql false (.t 31) (.c (.p (.int .i64 0)))) 30 true)) rfl (fun hg => (n_eql (i := v1) (j := 0) rfl rfl)) (fun hg => (.cons hg (.cons rfl .nil)))) ?_
    refine RegJ.op (Op1.valk (v := vb (decide (v1 = 0))) _ _ (cy (IG 33 (.mov (.t 32)) 30 true)) rfl (by kernel_rfl) (fun hg => (.cons hg .nil))) ?_
    refine RegJ.op (Op1.valk (v := vk .u8 (((ix a0 v1).toNat : Nat) : Int)) _ _ (cy (IG 34 (.mov (.t 4)) 33 false)) rfl (by kernel_rfl) (fun hg => (.cons rfl .nil))) ?_
    refine RegJ.op (Op1.valk (v := vb ((((ix a0 v1).toNat : Nat) : Int) != (45 : Int))) _ _ (cy (IG 35 (.bin .neq false (.t 34) (.c (.p (.int .u8 45)))) 33 false)) rfl (by kernel_rfl) (fun hg => (.cons hg (.cons rfl .nil)))) ?_
    refine RegJ.op (Op1.valk (v := vb ((((ix a0 v1).toNat : Nat) : Int) != (45 : Int))) _ _ (cy (IG 36 (.mov (.t 35)) 33 false)) rfl (by kernel_rfl) (fun hg => (.cons hg .nil))) ?_
    refine RegJ.op (Op1.valk (v := vk .u8 (((ix a0 v1).toNat : Nat) : Int)) _ _ (cy (IG 37 (.mov (.t 4)) 36 true)) rfl (by kernel_rfl) (fun hg => (.cons rfl .nil))) ?_
    refine RegJ.op (Op1.valk (v := vb (decide ((((ix a0 v1).toNat : Nat) : Int) < (48 : Int)))) _ _ (cy (IG 38 (.bin .lss false (.t 37) (.c (.p (.int .u8 48)))) 36 true)) rfl (by kernel_rfl) (fun hg => (.cons hg (.cons rfl .nil)))) ?_
    refine RegJ.op (Op1.valk (v := vb (decide ((((ix a0 v1).toNat : Nat) : Int) < (48 : Int)))) _ _ (cy (IG 39 (.mov (.t 38)) 36 true)) rfl (by kernel_rfl) (fun hg => (.cons hg .nil))) ?_
    refine RegJ.op (Op1.valk (v := vk .u8 (((ix a0 v1).toNat : Nat) : Int)) _ _ (cy (IG 40 (.mov (.t 4)) 39 false)) rfl (by kernel_rfl) (fun hg => (.cons rfl .nil))) ?_
    refine RegJ.op (Op1.valk (v := vb (decide ((57 : Int) < (((ix a0 v1).toNat : Nat) : Int)))) _ _ (cy (IG 41 (.bin .gtr false (.t 40) (.c (.p (.int .u8 57)))) 39 false)) rfl (by kernel_rfl) (fun hg => (.cons hg (.cons rfl .nil)))) ?_
    refine RegJ.op (Op1.org (g := ((!(((decide ((97 : Int) ≤ (((ix a0 v1).toNat : Nat) : Int))) && (decide ((((ix a0 v1).toNat : Nat) : Int) ≤ (122 : Int)))) || ((decide ((65 : Int) ≤ (((ix a0 v1).toNat : Nat) : Int))) && (decide ((((ix a0 v1).toNat : Nat) : Int) ≤ (90 : Int)))))) && !(decide (v1 = 0))) && ((((ix a0 v1).toNat : Nat) : Int) != (45 : Int))) (cy (IG 42 (.pick (.t 39) (.c (.p (.bool true))) (.t 41)) 36 true)) rfl rfl rfl (fun hg => by first | exact hokO2 hg | exact hokO3 hg | exact hokO1 | exact hokO0 | (rw [hg]; simp) | simp_all)) ?_
    refine RegJ.op (Op1.andg (g := (!(((decide ((97 : Int) ≤ (((ix a0 v1).toNat : Nat) : Int))) && (decide ((((ix a0 v1).toNat : Nat) : Int) ≤ (122 : Int)))) || ((decide ((65 : Int) ≤ (((ix a0 v1).toNat : Nat) : Int))) && (decide ((((ix a0 v1).toNat : Nat) : Int) ≤ (90 : Int)))))) && !(decide (v1 = 0))) (cy (IG 43 (.pick (.t 36) (.t 42) (.c (.p (.bool false)))) 33 false)) rfl rfl rfl (fun hg => by first | exact hokA2 hg | exact hokA3 hg | exact hokA1 | exact hokA0 | (rw [hg]; simp) | simp_all)) ?_
    refine RegJ.op (Op1.org (g := !(((decide ((97 : Int) ≤ (((ix a0 v1).toNat : Nat) : Int))) && (decide ((((ix a0 v1).toNat : Nat) : Int) ≤ (122 : Int)))) || ((decide ((65 : Int) ≤ (((ix a0 v1).toNat : Nat) : Int))) && (decide ((((ix a0 v1).toNat : Nat) : Int) ≤ (90 : Int)))))) (cy (IG 44 (.pick (.t 33) (.c (.p (.bool true))) (.t 43)) 30 true)) rfl rfl rfl (fun hg => by first | exact hokO2 hg | exact hokO3 hg | exact hokO1 | exact hokO0 | (rw [hg]; simp) | simp_all)) ?_
    refine RegJ.op (Op1.and (cy (I0 45 (.pick (.t 30) (.t 44) (.c (.p (.bool false)))))) rfl rfl (by first | exact hokA1 | exact hokA0 | simp)) ?_
    refine jp [(0, vt a0), (7, eS 1 vbyte a0), (8, vi (a0.length : Int)), (9, vi v1), (45, vb ((!(((decide ((97 : Int) ≤ (((ix a0 v1).toNat : Nat) : Int))) && (decide ((((ix a0 v1).toNat : Nat) : Int) ≤ (122 : Int)))) || ((decide ((65 : Int) ≤ (((ix a0 v1).toNat : Nat) : Int))) && (decide ((((ix a0 v1).toNat : Nat) : Int) ≤ (90 : Int)))))) && ((decide (v1 = 0)) || (((((ix a0 v1).toNat : Nat) : Int) != (45 : Int)) && ((decide ((((ix a0 v1).toNat : Nat) : Int) < (48 : Int))) || (decide ((57 : Int) < (((ix a0 v1).toNat : Nat) : Int))))))))] ?_
    refine TriE.cond (b := (!(((decide ((97 : Int) ≤ (((ix a0 v1).toNat : Nat) : Int))) && (decide ((((ix a0 v1).toNat : Nat) : Int) ≤ (122 : Int)))) || ((decide ((65 : Int) ≤ (((ix a0 v1).toNat : Nat) : Int))) && (decide ((((ix a0 v1).toNat : Nat) : Int) ≤ (90 : Int)))))) && ((decide (v1 = 0)) || (((((ix a0 v1).toNat : Nat) : Int) != (45 : Int)) && ((decide ((((ix a0 v1).toNat : Nat) : Int) < (48 : Int))) || (decide ((57 : Int) < (((ix a0 v1).toNat : Nat) : Int))))))) rfl (fun c2 => ?_) (fun c2 => ?_)
    · have h := cond_t h c2
      refine sr [(2, vb false)] [] ?_
      refine TriE.ret ?_
      have h := Option.some.inj h
      subst h
      exact DoneS.ret (S' := ⟨[(2, vb false)], []⟩) Sees.refl rfl rfl
    have h := cond_f h c2
    refine TriE.skip ?_
    refine TriE.regJ ?_
    obtain ⟨c3, h⟩ := chk_some h
    refine jv (vi ((v1 + 1 : Nat) : Int)) (cy (I0 46 (.bin .add false (.t 9) (.c (.p (.int .i64 1)))))) (r_addn (i := v1) (j := 1) rfl rfl c3) rfl ?_
    refine jq 1 [(0, vt a0), (7, eS 1 vbyte a0), (8, vi (a0.length : Int)), (9, vi ((v1 + 1 : Nat) : Int))] [] ?_
    exact Vs.intro sy ⟨(v1 + 1), rfl, h⟩
  have h := cond_f h c1
  refine TriE.exit ?_
  exact Vs.intro sy ⟨(), rfl, h⟩
theorem restore_stocked_f1_ok (n : Nat) (a0 : Stocked) (a1 : Str) (r : Unit) (h : restore_stocked_f1 n a0 a1 = some r) : FnL Tryz.prog 158 [.agg [vt a0.Part, vi a0.Cents, vi a0.Count], .ptr 0 0 0] [some (.row 1 [vt a1])] (vb (a0.Part == a1)) [some (.row 1 [vt a1])] := by
  dsimp only [restore_stocked_f1] at h
  refine FnL.ofS (ts := [3]) Tryz.call158 Tryz.func158 rfl rfl (Nat.le_of_ble_eq_true rfl) (Nat.le_of_ble_eq_true rfl) (hall_of (.cons rfl .nil)) ?_
  refine sr [(1, .ptr 0 0 0), (2, .ptr 1 0 0)] [some (.row 1 [vt a1]), some (.row 3 [.agg [vt a0.Part, vi a0.Cents, vi a0.Count]])] ?_
  refine sr [(3, vb (a0.Part == a1))] [some (.row 1 [vt a1]), some (.row 3 [.agg [vt a0.Part, vi a0.Cents, vi a0.Count]])] ?_
  refine TriE.ret ?_
  have h := Option.some.inj h
  subst h
  exact DoneS.ret (S' := ⟨[(3, vb (a0.Part == a1))], [some (.row 1 [vt a1])]⟩) (sc [0] (by decide) (by kernel_rfl) (.cons rfl .nil) rfl rfl) rfl rfl
theorem slices_IndexFunc_Stocked_ok (n : Nat) (a0 : List Stocked) (a1 : Str) (r : Int) (h : slices_IndexFunc_Stocked n a0 a1 = some r) : FnL Tryz.prog 157 [eS 3 eStocked a0, .fn (.func 158) [] [.ptr 0 0 0]] [some (.row 1 [vt a1])] (vi r) [some (.row 1 [vt a1])] := by
  dsimp only [slices_IndexFunc_Stocked] at h
  refine FnL.ofS (ts := [4]) Tryz.call157 Tryz.func157 rfl rfl (Nat.le_of_ble_eq_true rfl) (Nat.le_of_ble_eq_true rfl) (hall_of (.cons rfl .nil)) ?_
  refine sr [(0, eS 3 eStocked a0), (1, .fn (.func 158) [] [.ptr 0 0 0])] [some (.row 1 [vt a1])] ?_
  refine TriE.seqK h (fun (_ : Unit) => St.mk [] [some (.row 1 [vt a1])]) ?_ ?_
  · rintro ⟨⟩ h
    refine sr [(4, vi (-1))] [some (.row 1 [vt a1])] ?_
    refine TriE.ret ?_
    have h := Option.some.inj h
    subst h
    exact DoneS.ret (S' := ⟨[(4, vi (-1))], [some (.row 1 [vt a1])]⟩) Sees.refl rfl rfl
  intro k1 h
  refine sj ?_
  refine rn 1 [(0, eS 3 eStocked a0), (1, .fn (.func 158) [] [.ptr 0 0 0]), (6, eS 3 eStocked a0)] [some (.row 1 [vt a1])] ?_
  refine jv (vi (a0.length : Int)) (cy (I0 7 (.len 0 (.t 6)))) (ok_len_m rfl) rfl ?_
  refine jq 1 [(0, eS 3 eStocked a0), (1, .fn (.func 158) [] [.ptr 0 0 0]), (7, vi (a0.length : Int)), (8, vi 0)] [some (.row 1 [vt a1])] ?_
  refine TriE.block ?_
  refine TriE.sees (S' := ⟨[(0, eS 3 eStocked a0), (1, .fn (.func 158) [] [.ptr 0 0 0]), (7, vi (a0.length : Int)), (8, vi 0)], [some (.row 1 [vt a1])]⟩) sy ?_
  refine TriE.loopN h (fun (v2 : Nat) => St.mk [(0, eS 3 eStocked a0), (1, .fn (.func 158) [] [.ptr 0 0 0]), (7, vi (a0.length : Int)), (8, vi v2)] [some (.row 1 [vt a1])]) rfl ?_
  clear h
  rintro back v2 h
  dsimp only [slices_IndexFunc_Stocked_L1] at h
  refine sj ?_
  refine jv (vb (decide (v2 < a0.length))) (cy (I0 9 (.bin .lss false (.t 8) (.t 7)))) (n_lss (i := v2) (j := a0.length) rfl rfl) rfl ?_
  refine jp [(0, eS 3 eStocked a0), (1, .fn (.func 158) [] [.ptr 0 0 0]), (7, vi (a0.length : Int)), (8, vi v2), (9, vb (decide (v2 < a0.length)))] ?_
  refine TriE.seq ?_
  refine TriE.cond (b := decide (v2 < a0.length)) rfl (fun c1 => ?_) (fun c1 => ?_)
  · have h := cond_t h c1
    refine TriE.skip ?_
    refine TriE.seq ?_
    refine TriE.block ?_
    refine sr [(0, eS 3 eStocked a0), (1, .fn (.func 158) [] [.ptr 0 0 0]), (7, vi (a0.length : Int)), (8, vi v2), (5, vi v2)] [some (.row 1 [vt a1])] ?_
    refine sj ?_
    refine rn 3 [(0, eS 3 eStocked a0), (1, .fn (.func 158) [] [.ptr 0 0 0]), (7, vi (a0.length : Int)), (8, vi v2), (5, vi v2), (11, .fn (.func 158) [] [.ptr 0 0 0]), (12, eS 3 eStocked a0), (13, vi v2)] [some (.row 1 [vt a1])] ?_
    refine jv (.fptr 3 (List.map eStocked a0) v2 0) (cy (I0 14 (.iaddr 3 (.t 12) (.t 13)))) (ok_iaddr_m (j := v2) rfl rfl rfl c1) rfl ?_
    refine jv (.agg [vt ((ix a0 v2).Part), vi ((ix a0 v2).Cents), vi ((ix a0 v2).Count)]) (cy (I0 15 (.load true 3 (.t 14)))) (ok_load_fm (v := .agg [vt ((ix a0 v2).Part), vi ((ix a0 v2).Cents), vi ((ix a0 v2).Count)]) rfl c1 rfl) rfl ?_
    obtain ⟨y3, hy3, h⟩ := bind_some h
    refine RegJ.op (Op1.dyn (y' := vb ((ix a0 v2).Part == a1)) (obx := [some (.row 1 [vt a1])]) (oby := [some (.row 1 [vt a1])]) (ob2 := [some (.row 1 [vt a1])]) _ _ _ (cy (I0 16 (.dyn (.t 11) [(.t 15)]))) rfl rfl (restore_stocked_f1_ok n (ix a0 v2) a1 y3 hy3) [0] (by kernel_rfl) (.cons rfl (.cons rfl .nil)) (by kernel_rfl) (by kernel_rfl) (.cons rfl .nil) (by kernel_rfl) (.cons rfl .nil) (by kernel_rfl)) ?_
    refine jp [(0, eS 3 eStocked a0), (1, .fn (.func 158) [] [.ptr 0 0 0]), (7, vi (a0.length : Int)), (8, vi v2), (5, vi v2), (16, vb ((ix a0 v2).Part == a1))] ?_
    refine TriE.cond (b := ((ix a0 v2).Part == a1)) rfl (fun c2 => ?_) (fun c2 => ?_)
    · have h := cond_t h c2
      refine sr [(4, vi v2)] [some (.row 1 [vt a1])] ?_
      refine TriE.ret ?_
      have h := Option.some.inj h
      subst h
      exact DoneS.ret (S' := ⟨[(4, vi v2)], [some (.row 1 [vt a1])]⟩) Sees.refl rfl rfl
    have h := cond_f h c2
    refine TriE.skip ?_
    refine TriE.regJ ?_
    obtain ⟨c3, h⟩ := chk_some h
    refine jv (vi ((v2 + 1 : Nat) : Int)) (cy (I0 18 (.bin .add false (.t 8) (.c (.p (.int .i64 1)))))) (r_addn (i := v2) (j := 1) rfl rfl c3) rfl ?_
    refine jq 1 [(0, eS 3 eStocked a0), (1, .fn (.func 158) [] [.ptr 0 0 0]), (7, vi (a0.length : Int)), (8, vi ((v2 + 1 : Nat) : Int))] [some (.row 1 [vt a1])] ?_
    exact Vs.intro sy ⟨(v2 + 1), rfl, h⟩
  have h := cond_f h c1
  refine TriE.exit ?_
  exact Vs.intro sy ⟨(), rfl, h⟩
theorem restore_stocked_ok (n : Nat) (a0 : List Stocked) (a1 : Str) (r : Int) (h : restore_stocked n a0 a1 = some r) : FnL Tryz.prog 90 [eS 3 eStocked a0, vt a1] [] (vi r) [] := by
  dsimp only [restore_stocked] at h
  refine FnL.ofS (ts := [4]) Tryz.call90 Tryz.func90 rfl rfl (Nat.le_of_ble_eq_true rfl) (Nat.le_of_ble_eq_true rfl) (fun j h => absurd h (Nat.not_lt_zero j)) ?_
  refine sr [(0, eS 3 eStocked a0), (3, .ptr 0 0 0)] [some (.row 1 [vt a1])] ?_
  refine sj ?_
  refine rn 2 [(5, eS 3 eStocked a0), (6, .fn (.func 158) [] [.ptr 0 0 0])] [some (.row 1 [vt a1])] ?_
  obtain ⟨y1, hy1, h⟩ := bind_some h
  refine RegJ.op (Op1.call (y' := vi y1) (obx := [some (.row 1 [vt a1])]) (oby := [some (.row 1 [vt a1])]) (ob2 := [some (.row 1 [vt a1])]) _ _ (cy (I0 7 (.call 157 [(.t 5), (.t 6)]))) rfl (slices_IndexFunc_Stocked_ok n a0 a1 y1 hy1) [0] (by kernel_rfl) (.cons rfl (.cons rfl (.cons rfl .nil))) (by kernel_rfl) (by kernel_rfl) (.cons rfl .nil) (by kernel_rfl) (.cons rfl .nil) (by kernel_rfl)) ?_
  refine jq 1 [(4, vi y1)] [some (.row 1 [vt a1])] ?_
  refine TriE.ret ?_
  have h := Option.some.inj h
  subst h
  exact DoneS.ret (S' := ⟨[(4, vi y1)], []⟩) (sc [] (by decide) (by kernel_rfl) ObRen.nil rfl rfl) rfl rfl
theorem restore_within_ok (n : Nat) (a0 : Int) (a1 : Int) (a2 : Int) (r : Unit) (h : restore_within n a0 a1 a2 = some r) : FnL Tryz.prog 91 [vi a0, vi a1, vi a2] [] (vb ((decide (a1 ≤ a0)) && (decide (a0 ≤ a2)))) [] := by
  dsimp only [restore_within] at h
  refine FnL.ofS (ts := [6]) Tryz.call91 Tryz.func91 rfl rfl (Nat.le_of_ble_eq_true rfl) (Nat.le_of_ble_eq_true rfl) (fun j h => absurd h (Nat.not_lt_zero j)) ?_
  refine sr [(0, vi a0), (1, vi a1), (2, vi a2)] [] ?_
  refine sj ?_
  refine rn 4 [(0, vi a0), (2, vi a2), (10, vb (decide (a1 ≤ a0)))] [] ?_
  refine RegJ.op (Op1.valk (v := vi a0) _ _ (cy (IG 11 (.mov (.t 0)) 10 true)) rfl (by kernel_rfl) (fun hg => (.cons rfl .nil))) ?_
  refine RegJ.op (Op1.valk (v := vi a2) _ _ (cy (IG 12 (.mov (.t 2)) 10 true)) rfl (by kernel_rfl) (fun hg => (.cons rfl .nil))) ?_
  refine RegJ.op (Op1.valk (v := vb (decide (a0 ≤ a2))) _ _ (cy (IG 13 (.bin .leq false (.t 11) (.t 12)) 10 true)) rfl (by kernel_rfl) (fun hg => (.cons hg (.cons hg .nil)))) ?_
  refine RegJ.op (Op1.and (cy (I0 14 (.pick (.t 10) (.t 13) (.c (.p (.bool false)))))) rfl rfl (by first | exact hokA1 | exact hokA0 | simp)) ?_
  refine jq 1 [(6, vb ((decide (a1 ≤ a0)) && (decide (a0 ≤ a2))))] [] ?_
  refine TriE.ret ?_
  have h := Option.some.inj h
  subst h
  exact DoneS.ret (S' := ⟨[(6, vb ((decide (a1 ≤ a0)) && (decide (a0 ≤ a2))))], []⟩) Sees.refl rfl rfl
theorem restore_CheckStock_ok (n : Nat) (a0 : List Stocked) (r : Int) (h : restore_CheckStock n a0 = some r) : FnL Tryz.prog 22 [eS 3 eStocked a0] [] (vi r) [] := by
  dsimp only [restore_CheckStock] at h
  refine FnL.ofS (ts := [2]) Tryz.call22 Tryz.func22 rfl rfl (Nat.le_of_ble_eq_true rfl) (Nat.le_of_ble_eq_true rfl) (fun j h => absurd h (Nat.not_lt_zero j)) ?_
  refine sr [(0, eS 3 eStocked a0)] [] ?_
  refine TriE.seq ?_
  refine sj ?_
  refine rn 1 [(0, eS 3 eStocked a0), (5, eS 3 eStocked a0)] [] ?_
  refine jv (vi (a0.length : Int)) (cy (I0 6 (.len 0 (.t 5)))) (ok_len_m rfl) rfl ?_
  refine jv (vb (decide (60 < a0.length))) (cy (I0 7 (.bin .gtr false (.t 6) (.c (.p (.int .i64 60)))))) (n_gtr (i := a0.length) (j := 60) rfl rfl) rfl ?_
  refine jp [(0, eS 3 eStocked a0), (7, vb (decide (60 < a0.length)))] ?_
  refine TriE.cond (b := decide (60 < a0.length)) rfl (fun c1 => ?_) (fun c1 => ?_)
  · have h := cond_t h c1
    refine sr [(2, vi 8)] [] ?_
    refine TriE.ret ?_
    have h := Option.some.inj h
    subst h
    exact DoneS.ret (S' := ⟨[(2, vi 8)], []⟩) Sees.refl rfl rfl
  have h := cond_f h c1
  refine TriE.skip ?_
  refine TriE.seqK h (fun (_ : Unit) => St.mk [] []) ?_ ?_
  · rintro ⟨⟩ h
    refine sr [(2, vi 0)] [] ?_
    refine TriE.ret ?_
    have h := Option.some.inj h
    subst h
    exact DoneS.ret (S' := ⟨[(2, vi 0)], []⟩) Sees.refl rfl rfl
  intro k1 h
  refine sj ?_
  refine rn 1 [(0, eS 3 eStocked a0), (8, eS 3 eStocked a0)] [] ?_
  refine jv (vi (a0.length : Int)) (cy (I0 9 (.len 0 (.t 8)))) (ok_len_m rfl) rfl ?_
  refine jq 1 [(0, eS 3 eStocked a0), (8, eS 3 eStocked a0), (9, vi (a0.length : Int)), (10, vi 0)] [] ?_
  refine TriE.block ?_
  refine TriE.sees (S' := ⟨[(0, eS 3 eStocked a0), (8, eS 3 eStocked a0), (9, vi (a0.length : Int)), (10, vi 0)], []⟩) sy ?_
  refine TriE.loopN h (fun (v5 : Nat) => St.mk [(0, eS 3 eStocked a0), (8, eS 3 eStocked a0), (9, vi (a0.length : Int)), (10, vi v5)] []) rfl ?_
  clear h
  rintro back v5 h
  dsimp only [restore_CheckStock_L1] at h
  refine sj ?_
  refine jv (vb (decide (v5 < a0.length))) (cy (I0 11 (.bin .lss false (.t 10) (.t 9)))) (n_lss (i := v5) (j := a0.length) rfl rfl) rfl ?_
  refine jp [(0, eS 3 eStocked a0), (8, eS 3 eStocked a0), (9, vi (a0.length : Int)), (10, vi v5), (11, vb (decide (v5 < a0.length)))] ?_
  refine TriE.seq ?_
  refine TriE.cond (b := decide (v5 < a0.length)) rfl (fun c2 => ?_) (fun c2 => ?_)
  · have h := cond_t h c2
    refine TriE.skip ?_
    refine TriE.seq ?_
    refine TriE.block ?_
    refine sj ?_
    refine rn 1 [(0, eS 3 eStocked a0), (8, eS 3 eStocked a0), (9, vi (a0.length : Int)), (10, vi v5), (12, vi v5)] [] ?_
    refine jv (.fptr 3 (List.map eStocked a0) v5 0) (cy (I0 13 (.iaddr 3 (.t 8) (.t 10)))) (ok_iaddr_m (j := v5) rfl rfl rfl c2) rfl ?_
    refine jv (.agg [vt ((ix a0 v5).Part), vi ((ix a0 v5).Cents), vi ((ix a0 v5).Count)]) (cy (I0 14 (.load true 3 (.t 13)))) (ok_load_fm (v := .agg [vt ((ix a0 v5).Part), vi ((ix a0 v5).Cents), vi ((ix a0 v5).Count)]) rfl c2 rfl) rfl ?_
    refine jq 3 [(0, eS 3 eStocked a0), (8, eS 3 eStocked a0), (9, vi (a0.length : Int)), (10, vi v5), (4, .ptr 0 0 0), (3, vi v5)] [some (.row 3 [.agg [vt ((ix a0 v5).Part), vi ((ix a0 v5).Cents), vi ((ix a0 v5).Count)]])] ?_
    refine TriE.block ?_
    refine sj ?_
    refine rn 2 [(0, eS 3 eStocked a0), (8, eS 3 eStocked a0), (9, vi (a0.length : Int)), (10, vi v5), (4, .ptr 0 0 0), (3, vi v5), (17, vt ((ix a0 v5).Part))] [some (.row 3 [.agg [vt ((ix a0 v5).Part), vi ((ix a0 v5).Cents), vi ((ix a0 v5).Count)]])] ?_
    obtain ⟨y6, hy6, h⟩ := bind_some h
    refine RegJ.op (Op1.call (y' := vb y6) (obx := []) (oby := []) (ob2 := [some (.row 3 [.agg [vt ((ix a0 v5).Part), vi ((ix a0 v5).Cents), vi ((ix a0 v5).Count)]])]) _ _ (cy (I0 18 (.call 89 [(.t 17)]))) rfl (restore_isName_ok n ((ix a0 v5).Part) y6 hy6) [] (by kernel_rfl) (.cons rfl (.cons rfl .nil)) (by kernel_rfl) (by kernel_rfl) ObsRen.nil (by kernel_rfl) ObsRen.nil (by kernel_rfl)) ?_
    refine jq 2 [(0, eS 3 eStocked a0), (8, eS 3 eStocked a0), (9, vi (a0.length : Int)), (10, vi v5), (4, .ptr 0 0 0), (3, vi v5), (15, vb (!y6))] [some (.row 3 [.agg [vt ((ix a0 v5).Part), vi ((ix a0 v5).Cents), vi ((ix a0 v5).Count)]])] ?_
    refine TriE.cond (b := !y6) rfl (fun c3 => ?_) (fun c3 => ?_)
    · have h := cond_t h c3
      refine sr [(2, vi 4)] [some (.row 3 [.agg [vt ((ix a0 v5).Part), vi ((ix a0 v5).Cents), vi ((ix a0 v5).Count)]])] ?_
      refine TriE.ret ?_
      have h := Option.some.inj h
      subst h
      exact DoneS.ret (S' := ⟨[(2, vi 4)], []⟩) (sc [] (by decide) (by kernel_rfl) ObRen.nil rfl rfl) rfl rfl
    have h := cond_f h c3
    refine TriE.seq ?_
    refine TriE.sees (Sees.less (fr' := [(0, eS 3 eStocked a0), (8, eS 3 eStocked a0), (9, vi (a0.length : Int)), (10, vi v5), (4, .ptr 0 0 0), (3, vi v5)]) (.cons rfl (.cons rfl (.cons rfl (.cons rfl (.cons rfl (.cons rfl .nil))))))) ?_
    refine TriE.draw (by kernel_rfl) ?_
    refine RegD.run 2 [(22, vi v5), (21, eS 3 eStocked a0), (0, eS 3 eStocked a0), (8, eS 3 eStocked a0), (9, vi (a0.length : Int)), (10, vi v5), (4, .ptr 0 0 0), (3, vi v5)] [some (.row 3 [.agg [vt ((ix a0 v5).Part), vi ((ix a0 v5).Cents), vi ((ix a0 v5).Count)]]), none, none] (by kernel_rfl) ?_
    obtain ⟨c4, h⟩ := chk_some h
    refine dv (eS 3 eStocked (List.take v5 a0)) (cy (I0 23 (.slc 3 (.t 21) none (some (.t 22)) none))) (ok_slc_hi (j := v5) rfl rfl rfl c4) rfl ?_
    refine RegD.run 2 [(25, vt ((ix a0 v5).Part)), (24, .ptr 0 0 0), (23, eS 3 eStocked (List.take v5 a0)), (22, vi v5), (21, eS 3 eStocked a0), (0, eS 3 eStocked a0), (8, eS 3 eStocked a0), (9, vi (a0.length : Int)), (10, vi v5), (4, .ptr 0 0 0), (3, vi v5)] [some (.row 3 [.agg [vt ((ix a0 v5).Part), vi ((ix a0 v5).Cents), vi ((ix a0 v5).Count)]]), none, none, none, none, none] (by kernel_rfl) ?_
    obtain ⟨y7, hy7, h⟩ := bind_some h
    refine RegD.op (OpD.call (y' := vi y7) (obx := []) (oby := []) (ob2 := [some (.row 3 [.agg [vt ((ix a0 v5).Part), vi ((ix a0 v5).Cents), vi ((ix a0 v5).Count)]]), none, none, none, none, none, none]) (tch := []) 0 _ _ (cy (I0 26 (.call 90 [(.t 23), (.t 25)]))) (restore_stocked_ok n (List.take v5 a0) ((ix a0 v5).Part) y7 hy7) [] (by kernel_rfl) (.cons rfl (.cons rfl (.cons rfl .nil))) (by kernel_rfl) (by kernel_rfl) ObsRen.nil (by kernel_rfl) ObsRen.nil (by kernel_rfl) rfl (.inr ⟨rfl, rfl⟩)) ?_
    refine RegD.run 2 [(20, vb (decide ((0 : Int) ≤ y7))), (27, vb (decide ((0 : Int) ≤ y7))), (26, vi y7), (25, vt ((ix a0 v5).Part)), (24, .ptr 0 0 0), (23, eS 3 eStocked (List.take v5 a0)), (22, vi v5), (21, eS 3 eStocked a0), (0, eS 3 eStocked a0), (8, eS 3 eStocked a0), (9, vi (a0.length : Int)), (10, vi v5), (4, .ptr 0 0 0), (3, vi v5)] [some (.row 3 [.agg [vt ((ix a0 v5).Part), vi ((ix a0 v5).Cents), vi ((ix a0 v5).Count)]]), none, none, none, none, none, none, none, none] (by kernel_rfl) ?_
    refine RegD.done rfl (by kernel_rfl) (S' := ⟨[(0, eS 3 eStocked a0), (8, eS 3 eStocked a0), (9, vi (a0.length : Int)), (10, vi v5), (4, .ptr 0 0 0), (20, vb (decide ((0 : Int) ≤ y7)))], [some (.row 3 [.agg [vt ((ix a0 v5).Part), vi ((ix a0 v5).Cents), vi ((ix a0 v5).Count)]])]⟩) (sc [0] (by decide) (by kernel_rfl) (.cons rfl .nil) rfl rfl) ?_
    refine TriE.cond (b := decide ((0 : Int) ≤ y7)) rfl (fun c5 => ?_) (fun c5 => ?_)
    · have h := cond_t h c5
      refine sr [(2, vi 5)] [some (.row 3 [.agg [vt ((ix a0 v5).Part), vi ((ix a0 v5).Cents), vi ((ix a0 v5).Count)]])] ?_
      refine TriE.ret ?_
      have h := Option.some.inj h
      subst h
      exact DoneS.ret (S' := ⟨[(2, vi 5)], []⟩) (sc [] (by decide) (by kernel_rfl) ObRen.nil rfl rfl) rfl rfl
    have h := cond_f h c5
    refine sj ?_
    refine rn 2 [(0, eS 3 eStocked a0), (8, eS 3 eStocked a0), (9, vi (a0.length : Int)), (10, vi v5), (4, .ptr 0 0 0), (30, vi ((ix a0 v5).Cents))] [some (.row 3 [.agg [vt ((ix a0 v5).Part), vi ((ix a0 v5).Cents), vi ((ix a0 v5).Count)]])] ?_
    obtain ⟨y8, hy8, h⟩ := bind_some h
    refine RegJ.op (Op1.call (y' := vb ((decide (0 ≤ ((ix a0 v5).Cents))) && (decide (((ix a0 v5).Cents) ≤ 1000000000)))) (obx := []) (oby := []) (ob2 := [some (.row 3 [.agg [vt ((ix a0 v5).Part), vi ((ix a0 v5).Cents), vi ((ix a0 v5).Count)]])]) _ _ (cy (I0 31 (.call 91 [(.t 30), (.c (.p (.int .i64 0))), (.c (.p (.int .i64 1000000000)))]))) rfl (restore_within_ok n ((ix a0 v5).Cents) 0 1000000000 y8 hy8) [] (by kernel_rfl) (.cons rfl (.cons rfl (.cons rfl (.cons rfl .nil)))) (by kernel_rfl) (by kernel_rfl) ObsRen.nil (by kernel_rfl) ObsRen.nil (by kernel_rfl)) ?_
    refine rn 2 [(0, eS 3 eStocked a0), (8, eS 3 eStocked a0), (9, vi (a0.length : Int)), (10, vi v5), (4, .ptr 0 0 0), (33, vb (!((decide (0 ≤ ((ix a0 v5).Cents))) && (decide (((ix a0 v5).Cents) ≤ 1000000000)))))] [some (.row 3 [.agg [vt ((ix a0 v5).Part), vi ((ix a0 v5).Cents), vi ((ix a0 v5).Count)]])] ?_
    refine RegJ.op (Op1.valk (v := .ptr 0 0 2) _ _ (cy (IG 34 (.faddr 2 (.t 4)) 33 false)) rfl (by kernel_rfl) (fun hg => (.cons rfl .nil))) ?_
    refine RegJ.op (Op1.valk (v := vi ((ix a0 v5).Count)) _ _ (cy (IG 35 (.load false 1 (.t 34)) 33 false)) rfl (by kernel_rfl) (fun hg => (.cons hg .nil))) ?_
    obtain ⟨y9, hy9, h⟩ := bind_some h
    refine RegJ.op (Op1.callg (g := !(!((decide (0 ≤ ((ix a0 v5).Cents))) && (decide (((ix a0 v5).Cents) ≤ 1000000000))))) (y' := vb ((decide (0 ≤ ((ix a0 v5).Count))) && (decide (((ix a0 v5).Count) ≤ 10000)))) (obx := []) _ _ (cy (IG 36 (.call 91 [(.t 35), (.c (.p (.int .i64 0))), (.c (.p (.int .i64 10000)))]) 33 false)) rfl (fun hg => restore_within_ok n ((ix a0 v5).Count) 0 10000 y9 (gcall_some hy9 hg)) [] (fun hg => by kernel_rfl) (fun hg => (.cons rfl (.cons hg (.cons rfl (.cons rfl .nil))))) (by kernel_rfl) (by kernel_rfl) ObsRen.nil (by kernel_rfl) (by kernel_rfl)) ?_
    refine RegJ.op (Op1.valk (v := vb (!((decide (0 ≤ ((ix a0 v5).Count))) && (decide (((ix a0 v5).Count) ≤ 10000))))) _ _ (cy (IG 37 (.un .not (.t 36)) 33 false)) rfl (by kernel_rfl) (fun hg => (.cons hg .nil))) ?_
    refine RegJ.op (Op1.or (cy (I0 38 (.pick (.t 33) (.c (.p (.bool true))) (.t 37)))) rfl rfl (by first | exact hokO1 | exact hokO0 | simp)) ?_
    refine jq 1 [(0, eS 3 eStocked a0), (8, eS 3 eStocked a0), (9, vi (a0.length : Int)), (10, vi v5), (28, vb ((!((decide (0 ≤ ((ix a0 v5).Cents))) && (decide (((ix a0 v5).Cents) ≤ 1000000000)))) || (!((decide (0 ≤ ((ix a0 v5).Count))) && (decide (((ix a0 v5).Count) ≤ 10000))))))] [some (.row 3 [.agg [vt ((ix a0 v5).Part), vi ((ix a0 v5).Cents), vi ((ix a0 v5).Count)]])] ?_
    refine TriE.cond (b := (!((decide (0 ≤ ((ix a0 v5).Cents))) && (decide (((ix a0 v5).Cents) ≤ 1000000000)))) || (!((decide (0 ≤ ((ix a0 v5).Count))) && (decide (((ix a0 v5).Count) ≤ 10000))))) rfl (fun c6 => ?_) (fun c6 => ?_)
    · have h := cond_t h c6
      refine sr [(2, vi 2)] [some (.row 3 [.agg [vt ((ix a0 v5).Part), vi ((ix a0 v5).Cents), vi ((ix a0 v5).Count)]])] ?_
      refine TriE.ret ?_
      have h := Option.some.inj h
      subst h
      exact DoneS.ret (S' := ⟨[(2, vi 2)], []⟩) (sc [] (by decide) (by kernel_rfl) ObRen.nil rfl rfl) rfl rfl
    have h := cond_f h c6
    refine TriE.skip ?_
    refine TriE.regJ ?_
    obtain ⟨c7, h⟩ := chk_some h
    refine jv (vi ((v5 + 1 : Nat) : Int)) (cy (I0 39 (.bin .add false (.t 10) (.c (.p (.int .i64 1)))))) (r_addn (i := v5) (j := 1) rfl rfl c7) rfl ?_
    refine jq 1 [(0, eS 3 eStocked a0), (8, eS 3 eStocked a0), (9, vi (a0.length : Int)), (10, vi ((v5 + 1 : Nat) : Int))] [some (.row 3 [.agg [vt ((ix a0 v5).Part), vi ((ix a0 v5).Cents), vi ((ix a0 v5).Count)]])] ?_
    exact Vs.intro (sc [] (by decide) (by kernel_rfl) ObRen.nil rfl rfl) ⟨(v5 + 1), rfl, h⟩
  have h := cond_f h c2
  refine TriE.exit ?_
  exact Vs.intro sy ⟨(), rfl, h⟩
theorem restore_shelf_take_ok (n : Nat) (a0 : List Stocked) (a1 : List Int) (a2 : PartPromise) (r : Int × (List Int)) (h : restore_shelf_take n a0 a1 a2 = some r) : FnL Tryz.prog 111 [.ptr 0 0 0, .agg [vt a2.Instrument, vt a2.Part, vi a2.Count]] [some (.row 2 [.agg [eS 3 eStocked a0, .own 1 0 a1.length]]), some (.row 1 (List.map vi a1))] (vi r.1) [some (.row 2 [.agg [eS 3 eStocked a0, .own 1 0 a1.length]]), some (.row 1 (List.map vi r.2))] := by
  dsimp only [restore_shelf_take] at h
  refine FnL.ofS (ts := [4]) Tryz.call111 Tryz.func111 rfl rfl (Nat.le_of_ble_eq_true rfl) (Nat.le_of_ble_eq_true rfl) (hall_of (.cons rfl (.cons rfl .nil))) ?_
  refine sr [(0, .ptr 0 0 0), (3, .ptr 2 0 0)] [some (.row 2 [.agg [eS 3 eStocked a0, .own 1 0 a1.length]]), some (.row 1 (List.map vi a1)), some (.row 3 [.agg [vt a2.Instrument, vt a2.Part, vi a2.Count]])] ?_
  refine TriE.seq ?_
  refine TriE.sees (Sees.less (fr' := [(0, .ptr 0 0 0), (3, .ptr 2 0 0)]) (.cons rfl (.cons rfl .nil))) ?_
  refine TriE.draw (by kernel_rfl) ?_
  refine RegD.run 6 [(11, vt a2.Part), (10, .ptr 2 0 1), (9, eS 3 eStocked a0), (8, .ptr 0 0 0), (7, .ptr 0 0 0), (6, .ptr 0 0 0), (0, .ptr 0 0 0), (3, .ptr 2 0 0)] [some (.row 2 [.agg [eS 3 eStocked a0, .own 1 0 a1.length]]), some (.row 1 (List.map vi a1)), some (.row 3 [.agg [vt a2.Instrument, vt a2.Part, vi a2.Count]]), none, none, none, none, none, none] (by kernel_rfl) ?_
  obtain ⟨y1, hy1, h⟩ := bind_some h
  refine RegD.op (OpD.call (y' := vi y1) (obx := []) (oby := []) (ob2 := [some (.row 2 [.agg [eS 3 eStocked a0, .own 1 0 a1.length]]), some (.row 1 (List.map vi a1)), some (.row 3 [.agg [vt a2.Instrument, vt a2.Part, vi a2.Count]]), none, none, none, none, none, none, none]) (tch := []) 0 _ _ (cy (I0 12 (.call 90 [(.t 9), (.t 11)]))) (restore_stocked_ok n a0 a2.Part y1 hy1) [] (by kernel_rfl) (.cons rfl (.cons rfl (.cons rfl .nil))) (by kernel_rfl) (by kernel_rfl) ObsRen.nil (by kernel_rfl) ObsRen.nil (by kernel_rfl) rfl (.inr ⟨rfl, rfl⟩)) ?_
  refine RegD.run 1 [(5, vi y1), (12, vi y1), (11, vt a2.Part), (10, .ptr 2 0 1), (9, eS 3 eStocked a0), (8, .ptr 0 0 0), (7, .ptr 0 0 0), (6, .ptr 0 0 0), (0, .ptr 0 0 0), (3, .ptr 2 0 0)] [some (.row 2 [.agg [eS 3 eStocked a0, .own 1 0 a1.length]]), some (.row 1 (List.map vi a1)), some (.row 3 [.agg [vt a2.Instrument, vt a2.Part, vi a2.Count]]), none, none, none, none, none, none, none, none] (by kernel_rfl) ?_
  refine RegD.done rfl (by kernel_rfl) (S' := ⟨[(0, .ptr 0 0 0), (3, .ptr 2 0 0), (5, vi y1)], [some (.row 2 [.agg [eS 3 eStocked a0, .own 1 0 a1.length]]), some (.row 1 (List.map vi a1)), some (.row 3 [.agg [vt a2.Instrument, vt a2.Part, vi a2.Count]])]⟩) (sc [0, 1, 2] (by decide) (by kernel_rfl) (.cons rfl (obRen_row vi_frz rfl (.cons rfl .nil))) rfl rfl) ?_
  refine TriE.seq ?_
  refine TriE.block ?_
  refine sj ?_
  refine rn 2 [(0, .ptr 0 0 0), (3, .ptr 2 0 0), (5, vi y1), (15, vt a2.Instrument)] [some (.row 2 [.agg [eS 3 eStocked a0, .own 1 0 a1.length]]), some (.row 1 (List.map vi a1)), some (.row 3 [.agg [vt a2.Instrument, vt a2.Part, vi a2.Count]])] ?_
  obtain ⟨y2, hy2, h⟩ := bind_some h
  refine RegJ.op (Op1.call (y' := vb y2) (obx := []) (oby := []) (ob2 := [some (.row 2 [.agg [eS 3 eStocked a0, .own 1 0 a1.length]]), some (.row 1 (List.map vi a1)), some (.row 3 [.agg [vt a2.Instrument, vt a2.Part, vi a2.Count]])]) _ _ (cy (I0 16 (.call 89 [(.t 15)]))) rfl (restore_isName_ok n a2.Instrument y2 hy2) [] (by kernel_rfl) (.cons rfl (.cons rfl .nil)) (by kernel_rfl) (by kernel_rfl) ObsRen.nil (by kernel_rfl) ObsRen.nil (by kernel_rfl)) ?_
  refine jq 2 [(0, .ptr 0 0 0), (3, .ptr 2 0 0), (5, vi y1), (13, vb (!y2))] [some (.row 2 [.agg [eS 3 eStocked a0, .own 1 0 a1.length]]), some (.row 1 (List.map vi a1)), some (.row 3 [.agg [vt a2.Instrument, vt a2.Part, vi a2.Count]])] ?_
  refine TriE.cond (b := !y2) rfl (fun c1 => ?_) (fun c1 => ?_)
  · have h := cond_t h c1
    refine sr [(4, vi 4)] [some (.row 2 [.agg [eS 3 eStocked a0, .own 1 0 a1.length]]), some (.row 1 (List.map vi a1)), some (.row 3 [.agg [vt a2.Instrument, vt a2.Part, vi a2.Count]])] ?_
    refine TriE.ret ?_
    have h := Option.some.inj h
    subst h
    exact DoneS.ret (S' := ⟨[(4, vi 4)], [some (.row 2 [.agg [eS 3 eStocked a0, .own 1 0 a1.length]]), some (.row 1 (List.map vi a1))]⟩) (sc [0, 1] (by decide) (by kernel_rfl) (.cons rfl (obRen_row vi_frz rfl .nil)) rfl rfl) rfl rfl
  have h := cond_f h c1
  refine sr [(0, .ptr 0 0 0), (3, .ptr 2 0 0), (5, vi y1), (18, vb (decide (y1 < (0 : Int))))] [some (.row 2 [.agg [eS 3 eStocked a0, .own 1 0 a1.length]]), some (.row 1 (List.map vi a1)), some (.row 3 [.agg [vt a2.Instrument, vt a2.Part, vi a2.Count]])] ?_
  refine TriE.cond (b := decide (y1 < (0 : Int))) rfl (fun c2 => ?_) (fun c2 => ?_)
  · have h := cond_t h c2
    refine sr [(4, vi 6)] [some (.row 2 [.agg [eS 3 eStocked a0, .own 1 0 a1.length]]), some (.row 1 (List.map vi a1)), some (.row 3 [.agg [vt a2.Instrument, vt a2.Part, vi a2.Count]])] ?_
    refine TriE.ret ?_
    have h := Option.some.inj h
    subst h
    exact DoneS.ret (S' := ⟨[(4, vi 6)], [some (.row 2 [.agg [eS 3 eStocked a0, .own 1 0 a1.length]]), some (.row 1 (List.map vi a1))]⟩) (sc [0, 1] (by decide) (by kernel_rfl) (.cons rfl (obRen_row vi_frz rfl .nil)) rfl rfl) rfl rfl
  have h := cond_f h c2
  refine sj ?_
  refine rn 2 [(0, .ptr 0 0 0), (3, .ptr 2 0 0), (5, vi y1), (23, vi a2.Count)] [some (.row 2 [.agg [eS 3 eStocked a0, .own 1 0 a1.length]]), some (.row 1 (List.map vi a1)), some (.row 3 [.agg [vt a2.Instrument, vt a2.Part, vi a2.Count]])] ?_
  obtain ⟨y3, hy3, h⟩ := bind_some h
  refine RegJ.op (Op1.call (y' := vb ((decide (1 ≤ a2.Count)) && (decide (a2.Count ≤ 10000)))) (obx := []) (oby := []) (ob2 := [some (.row 2 [.agg [eS 3 eStocked a0, .own 1 0 a1.length]]), some (.row 1 (List.map vi a1)), some (.row 3 [.agg [vt a2.Instrument, vt a2.Part, vi a2.Count]])]) _ _ (cy (I0 24 (.call 91 [(.t 23), (.c (.p (.int .i64 1))), (.c (.p (.int .i64 10000)))]))) rfl (restore_within_ok n a2.Count 1 10000 y3 hy3) [] (by kernel_rfl) (.cons rfl (.cons rfl (.cons rfl (.cons rfl .nil)))) (by kernel_rfl) (by kernel_rfl) ObsRen.nil (by kernel_rfl) ObsRen.nil (by kernel_rfl)) ?_
  refine jq 2 [(0, .ptr 0 0 0), (3, .ptr 2 0 0), (5, vi y1), (21, vb (!((decide (1 ≤ a2.Count)) && (decide (a2.Count ≤ 10000)))))] [some (.row 2 [.agg [eS 3 eStocked a0, .own 1 0 a1.length]]), some (.row 1 (List.map vi a1)), some (.row 3 [.agg [vt a2.Instrument, vt a2.Part, vi a2.Count]])] ?_
  refine TriE.cond (b := !((decide (1 ≤ a2.Count)) && (decide (a2.Count ≤ 10000)))) rfl (fun c3 => ?_) (fun c3 => ?_)
  · have h := cond_t h c3
    refine sr [(4, vi 2)] [some (.row 2 [.agg [eS 3 eStocked a0, .own 1 0 a1.length]]), some (.row 1 (List.map vi a1)), some (.row 3 [.agg [vt a2.Instrument, vt a2.Part, vi a2.Count]])] ?_
    refine TriE.ret ?_
    have h := Option.some.inj h
    subst h
    exact DoneS.ret (S' := ⟨[(4, vi 2)], [some (.row 2 [.agg [eS 3 eStocked a0, .own 1 0 a1.length]]), some (.row 1 (List.map vi a1))]⟩) (sc [0, 1] (by decide) (by kernel_rfl) (.cons rfl (obRen_row vi_frz rfl .nil)) rfl rfl) rfl rfl
  have h := cond_f h c3
  refine TriE.seq ?_
  refine TriE.sees (Sees.less (fr' := [(0, .ptr 0 0 0), (3, .ptr 2 0 0), (5, vi y1)]) (.cons rfl (.cons rfl (.cons rfl .nil)))) ?_
  refine TriE.draw (by kernel_rfl) ?_
  refine RegD.run 7 [(33, vi y1), (32, .own 1 0 a1.length), (31, .ptr 0 0 1), (30, .ptr 0 0 0), (29, .ptr 0 0 0), (28, vi a2.Count), (27, .ptr 2 0 2), (0, .ptr 0 0 0), (3, .ptr 2 0 0), (5, vi y1)] [some (.row 2 [.agg [eS 3 eStocked a0, .own 1 0 a1.length]]), some (.row 1 (List.map vi a1)), some (.row 3 [.agg [vt a2.Instrument, vt a2.Part, vi a2.Count]]), none, none, none, none, none, none, none] (by kernel_rfl) ?_
  obtain ⟨c4, h⟩ := chk_some h
  refine dv (.ptr 1 y1.toNat 0) (cy (I0 34 (.iaddr 1 (.t 32) (.t 33)))) (ok_iaddr_o0 (j := y1.toNat) rfl rfl rfl (inB_to c4) (inB_lt c4)) rfl ?_
  obtain ⟨c5, h⟩ := chk_some h
  refine dv (vi (ix a1 y1.toNat)) (cy (I0 35 (.load false 1 (.t 34)))) (ok_load_pm (l := a1) (e := vi) (v := vi (ix a1 y1.toNat)) rfl rfl c5 rfl) rfl ?_
  refine RegD.run 2 [(26, vb (decide ((ix a1 y1.toNat) < a2.Count))), (36, vb (decide ((ix a1 y1.toNat) < a2.Count))), (35, vi (ix a1 y1.toNat)), (34, .ptr 1 y1.toNat 0), (33, vi y1), (32, .own 1 0 a1.length), (31, .ptr 0 0 1), (30, .ptr 0 0 0), (29, .ptr 0 0 0), (28, vi a2.Count), (27, .ptr 2 0 2), (0, .ptr 0 0 0), (3, .ptr 2 0 0), (5, vi y1)] [some (.row 2 [.agg [eS 3 eStocked a0, .own 1 0 a1.length]]), some (.row 1 (List.map vi a1)), some (.row 3 [.agg [vt a2.Instrument, vt a2.Part, vi a2.Count]]), none, none, none, none, none, none, none, none, none, none, none] (by kernel_rfl) ?_
  refine RegD.done rfl (by kernel_rfl) (S' := ⟨[(0, .ptr 0 0 0), (3, .ptr 2 0 0), (5, vi y1), (26, vb (decide ((ix a1 y1.toNat) < a2.Count)))], [some (.row 2 [.agg [eS 3 eStocked a0, .own 1 0 a1.length]]), some (.row 1 (List.map vi a1)), some (.row 3 [.agg [vt a2.Instrument, vt a2.Part, vi a2.Count]])]⟩) (sc [0, 1, 2] (by decide) (by kernel_rfl) (.cons rfl (obRen_row vi_frz rfl (.cons rfl .nil))) rfl rfl) ?_
  refine TriE.cond (b := decide ((ix a1 y1.toNat) < a2.Count)) rfl (fun c6 => ?_) (fun c6 => ?_)
  · have h := cond_t h c6
    refine sr [(4, vi 20)] [some (.row 2 [.agg [eS 3 eStocked a0, .own 1 0 a1.length]]), some (.row 1 (List.map vi a1)), some (.row 3 [.agg [vt a2.Instrument, vt a2.Part, vi a2.Count]])] ?_
    refine TriE.ret ?_
    have h := Option.some.inj h
    subst h
    exact DoneS.ret (S' := ⟨[(4, vi 20)], [some (.row 2 [.agg [eS 3 eStocked a0, .own 1 0 a1.length]]), some (.row 1 (List.map vi a1))]⟩) (sc [0, 1] (by decide) (by kernel_rfl) (.cons rfl (obRen_row vi_frz rfl .nil)) rfl rfl) rfl rfl
  have h := cond_f h c6
  refine TriE.skip ?_
  refine TriE.seq ?_
  refine TriE.sees (Sees.less (fr' := [(0, .ptr 0 0 0), (3, .ptr 2 0 0), (5, vi y1)]) (.cons rfl (.cons rfl (.cons rfl .nil)))) ?_
  refine TriE.draw (by kernel_rfl) ?_
  refine RegD.run 5 [(41, vi y1), (40, .own 1 0 a1.length), (39, .ptr 0 0 1), (38, .ptr 0 0 0), (37, .ptr 0 0 0), (0, .ptr 0 0 0), (3, .ptr 2 0 0), (5, vi y1)] [some (.row 2 [.agg [eS 3 eStocked a0, .own 1 0 a1.length]]), some (.row 1 (List.map vi a1)), some (.row 3 [.agg [vt a2.Instrument, vt a2.Part, vi a2.Count]]), none, none, none, none, none] (by kernel_rfl) ?_
  refine dv (.ptr 1 y1.toNat 0) (cy (I0 42 (.iaddr 1 (.t 40) (.t 41)))) (ok_iaddr_o0 (j := y1.toNat) rfl rfl rfl (inB_to c4) (inB_lt c4)) rfl ?_
  refine dv (vi (ix a1 y1.toNat)) (cy (I0 43 (.load false 1 (.t 42)))) (ok_load_pm (l := a1) (e := vi) (v := vi (ix a1 y1.toNat)) rfl rfl c5 rfl) rfl ?_
  refine RegD.run 2 [(45, vi a2.Count), (44, .ptr 2 0 2), (43, vi (ix a1 y1.toNat)), (42, .ptr 1 y1.toNat 0), (41, vi y1), (40, .own 1 0 a1.length), (39, .ptr 0 0 1), (38, .ptr 0 0 0), (37, .ptr 0 0 0), (0, .ptr 0 0 0), (3, .ptr 2 0 0), (5, vi y1)] [some (.row 2 [.agg [eS 3 eStocked a0, .own 1 0 a1.length]]), some (.row 1 (List.map vi a1)), some (.row 3 [.agg [vt a2.Instrument, vt a2.Part, vi a2.Count]]), none, none, none, none, none, none, none, none, none] (by kernel_rfl) ?_
  obtain ⟨c7, h⟩ := chk_some h
  refine dv (vi ((ix a1 y1.toNat) - a2.Count)) (cy (I0 46 (.bin .sub false (.t 43) (.t 45)))) (r_sub rfl rfl c7) rfl ?_
  refine dv (.ptr 1 y1.toNat 0) (cy (I0 47 (.iaddr 1 (.t 40) (.t 41)))) (ok_iaddr_o0 (j := y1.toNat) rfl rfl rfl (inB_to c4) (inB_lt c4)) rfl ?_
  refine de (.undef) [some (.row 2 [.agg [eS 3 eStocked a0, .own 1 0 a1.length]]), some (.row 1 (List.map vi (List.set a1 y1.toNat ((ix a1 y1.toNat) - a2.Count)))), some (.row 3 [.agg [vt a2.Instrument, vt a2.Part, vi a2.Count]]), none, none, none, none, none, none, none, none, none, none, none, none] (cy (IN (.store 1 (.t 47) (.t 46)))) (ok_store_m (l := a1) (e := vi) (x' := (ix a1 y1.toNat) - a2.Count) (u := vi ((ix a1 y1.toNat) - a2.Count)) rfl rfl rfl c5 rfl rfl) rfl rfl rfl ?_
  refine RegD.done rfl (by kernel_rfl) (S' := ⟨[], [some (.row 2 [.agg [eS 3 eStocked a0, .own 1 0 a1.length]]), some (.row 1 (List.map vi (List.set a1 y1.toNat ((ix a1 y1.toNat) - a2.Count))))]⟩) (sc [0, 1] (by decide) (by kernel_rfl) (.cons rfl (obRen_row vi_frz rfl .nil)) rfl rfl) ?_
  refine sr [(4, vi 0)] [some (.row 2 [.agg [eS 3 eStocked a0, .own 1 0 a1.length]]), some (.row 1 (List.map vi (List.set a1 y1.toNat ((ix a1 y1.toNat) - a2.Count))))] ?_
  refine TriE.ret ?_
  have h := Option.some.inj h
  subst h
  exact DoneS.ret (S' := ⟨[(4, vi 0)], [some (.row 2 [.agg [eS 3 eStocked a0, .own 1 0 a1.length]]), some (.row 1 (List.map vi (List.set a1 y1.toNat ((ix a1 y1.toNat) - a2.Count))))]⟩) Sees.refl rfl rfl
theorem restore_shelfOf_ok (n : Nat) (a0 : List Stocked) (a1 : List PartPromise) (r : Int ⊕ (List Int)) (h : restore_shelfOf n a0 a1 = some r) : FnL Tryz.prog 107 [eS 3 eStocked a0, eS 3 ePartPromise a1] [] (match r with | .inl r => .tup [.p (.pointer none), vi r] | .inr r => .tup [.ptr 0 0 0, vi 0]) (match r with | .inl r => [] | .inr r => [some (.row 2 [.agg [eS 3 eStocked a0, .own 1 0 r.length]]), some (.row 1 (List.map vi r))]) := by
  dsimp only [restore_shelfOf] at h
  refine FnL.ofS (ts := [4, 5]) Tryz.call107 Tryz.func107 rfl rfl (Nat.le_of_ble_eq_true rfl) (by rcases r with r | r <;> exact Nat.le_of_ble_eq_true rfl) (fun j h => absurd h (Nat.not_lt_zero j)) ?_
  refine sr [(0, eS 3 eStocked a0), (1, eS 3 ePartPromise a1)] [] ?_
  refine TriE.seq ?_
  refine sj ?_
  refine rn 1 [(0, eS 3 eStocked a0), (1, eS 3 ePartPromise a1), (13, eS 3 eStocked a0)] [] ?_
  obtain ⟨y1, hy1, h⟩ := bind_some h
  refine RegJ.op (Op1.call (y' := vi y1) (obx := []) (oby := []) (ob2 := []) _ _ (cy (I0 14 (.call 22 [(.t 13)]))) rfl (restore_CheckStock_ok n a0 y1 hy1) [] (by kernel_rfl) (.cons rfl (.cons rfl .nil)) (by kernel_rfl) (by kernel_rfl) ObsRen.nil (by kernel_rfl) ObsRen.nil (by kernel_rfl)) ?_
  refine jq 1 [(0, eS 3 eStocked a0), (1, eS 3 ePartPromise a1), (6, vi y1)] [] ?_
  refine sr [(0, eS 3 eStocked a0), (1, eS 3 ePartPromise a1), (6, vi y1), (16, vb (y1 != (0 : Int)))] [] ?_
  refine TriE.cond (b := (y1 != (0 : Int))) rfl (fun c1 => ?_) (fun c1 => ?_)
  · have h := cond_t h c1
    refine sr [(4, .p (.pointer none)), (5, vi y1)] [] ?_
    refine TriE.ret ?_
    have h := Option.some.inj h
    subst h
    exact DoneS.ret (S' := ⟨[(4, .p (.pointer none)), (5, vi y1)], []⟩) Sees.refl rfl rfl
  have h := cond_f h c1
  refine TriE.skip ?_
  refine TriE.seq ?_
  refine sj ?_
  refine rn 1 [(0, eS 3 eStocked a0), (1, eS 3 ePartPromise a1), (18, eS 3 ePartPromise a1)] [] ?_
  refine jv (vi (a1.length : Int)) (cy (I0 19 (.len 0 (.t 18)))) (ok_len_m rfl) rfl ?_
  refine jv (vb (decide (200 < a1.length))) (cy (I0 20 (.bin .gtr false (.t 19) (.c (.p (.int .i64 200)))))) (n_gtr (i := a1.length) (j := 200) rfl rfl) rfl ?_
  refine jp [(0, eS 3 eStocked a0), (1, eS 3 ePartPromise a1), (20, vb (decide (200 < a1.length)))] ?_
  refine TriE.cond (b := decide (200 < a1.length)) rfl (fun c2 => ?_) (fun c2 => ?_)
  · have h := cond_t h c2
    refine sr [(4, .p (.pointer none)), (5, vi 8)] [] ?_
    refine TriE.ret ?_
    have h := Option.some.inj h
    subst h
    exact DoneS.ret (S' := ⟨[(4, .p (.pointer none)), (5, vi 8)], []⟩) Sees.refl rfl rfl
  have h := cond_f h c2
  refine TriE.skip ?_
  refine sr [(0, eS 3 eStocked a0), (1, eS 3 ePartPromise a1), (7, .ptr 0 0 0)] [some (.row 2 [.agg [eS 3 eStocked a0, .emp]])] ?_
  refine TriE.seqK h (fun (v4 : (List Int)) => St.mk [(1, eS 3 ePartPromise a1), (7, .ptr 0 0 0)] [some (.row 2 [.agg [eS 3 eStocked a0, .own 1 0 v4.length]]), some (.row 1 (List.map vi v4))]) ?_ ?_
  · rintro v4 h
    refine TriE.seqK h (fun (v9 : (List Int)) => St.mk [(7, .ptr 0 0 0)] [some (.row 2 [.agg [eS 3 eStocked a0, .own 1 0 v9.length]]), some (.row 1 (List.map vi v9))]) ?_ ?_
    · rintro v9 h
      refine sr [(4, .ptr 0 0 0), (5, vi 0)] [some (.row 2 [.agg [eS 3 eStocked a0, .own 1 0 v9.length]]), some (.row 1 (List.map vi v9))] ?_
      refine TriE.ret ?_
      have h := Option.some.inj h
      subst h
      exact DoneS.ret (S' := ⟨[(4, .ptr 0 0 0), (5, vi 0)], [some (.row 2 [.agg [eS 3 eStocked a0, .own 1 0 v9.length]]), some (.row 1 (List.map vi v9))]⟩) Sees.refl rfl rfl
    intro k2 h
    refine sj ?_
    refine rn 1 [(7, .ptr 0 0 0), (42, eS 3 ePartPromise a1)] [some (.row 2 [.agg [eS 3 eStocked a0, .own 1 0 v4.length]]), some (.row 1 (List.map vi v4))] ?_
    refine jv (vi (a1.length : Int)) (cy (I0 43 (.len 0 (.t 42)))) (ok_len_m rfl) rfl ?_
    refine jq 1 [(7, .ptr 0 0 0), (42, eS 3 ePartPromise a1), (43, vi (a1.length : Int)), (44, vi 0)] [some (.row 2 [.agg [eS 3 eStocked a0, .own 1 0 v4.length]]), some (.row 1 (List.map vi v4))] ?_
    refine TriE.block ?_
    refine TriE.sees (S' := ⟨[(7, .ptr 0 0 0), (42, eS 3 ePartPromise a1), (43, vi (a1.length : Int)), (44, vi 0)], [some (.row 2 [.agg [eS 3 eStocked a0, .own 1 0 v4.length]]), some (.row 1 (List.map vi v4))]⟩) sy ?_
    refine TriE.loopN h (fun (t : Nat × (List Int)) => match t with | (v6, v7) => St.mk [(7, .ptr 0 0 0), (42, eS 3 ePartPromise a1), (43, vi (a1.length : Int)), (44, vi v6)] [some (.row 2 [.agg [eS 3 eStocked a0, .own 1 0 v7.length]]), some (.row 1 (List.map vi v7))]) rfl ?_
    clear h
    rintro back ⟨v6, v7⟩ h
    dsimp only [restore_shelfOf_L2] at h
    refine sj ?_
    refine jv (vb (decide (v6 < a1.length))) (cy (I0 45 (.bin .lss false (.t 44) (.t 43)))) (n_lss (i := v6) (j := a1.length) rfl rfl) rfl ?_
    refine jp [(7, .ptr 0 0 0), (42, eS 3 ePartPromise a1), (43, vi (a1.length : Int)), (44, vi v6), (45, vb (decide (v6 < a1.length)))] ?_
    refine TriE.seq ?_
    refine TriE.cond (b := decide (v6 < a1.length)) rfl (fun c6 => ?_) (fun c6 => ?_)
    · have h := cond_t h c6
      refine TriE.skip ?_
      refine TriE.seq ?_
      refine TriE.block ?_
      refine sj ?_
      refine jv (.fptr 3 (List.map ePartPromise a1) v6 0) (cy (I0 46 (.iaddr 3 (.t 42) (.t 44)))) (ok_iaddr_m (j := v6) rfl rfl rfl c6) rfl ?_
      refine jv (.agg [vt ((ix a1 v6).Instrument), vt ((ix a1 v6).Part), vi ((ix a1 v6).Count)]) (cy (I0 47 (.load true 3 (.t 46)))) (ok_load_fm (v := .agg [vt ((ix a1 v6).Instrument), vt ((ix a1 v6).Part), vi ((ix a1 v6).Count)]) rfl c6 rfl) rfl ?_
      refine jq 2 [(7, .ptr 0 0 0), (42, eS 3 ePartPromise a1), (43, vi (a1.length : Int)), (44, vi v6), (11, .ptr 2 0 0)] [some (.row 2 [.agg [eS 3 eStocked a0, .own 1 0 v7.length]]), some (.row 1 (List.map vi v7)), some (.row 3 [.agg [vt ((ix a1 v6).Instrument), vt ((ix a1 v6).Part), vi ((ix a1 v6).Count)]])] ?_
      refine sj ?_
      refine rn 2 [(7, .ptr 0 0 0), (42, eS 3 ePartPromise a1), (43, vi (a1.length : Int)), (44, vi v6), (48, .ptr 0 0 0), (49, .agg [vt ((ix a1 v6).Instrument), vt ((ix a1 v6).Part), vi ((ix a1 v6).Count)])] [some (.row 2 [.agg [eS 3 eStocked a0, .own 1 0 v7.length]]), some (.row 1 (List.map vi v7)), some (.row 3 [.agg [vt ((ix a1 v6).Instrument), vt ((ix a1 v6).Part), vi ((ix a1 v6).Count)]])] ?_
      obtain ⟨y8, hy8, h⟩ := bind_some h
      refine RegJ.op (Op1.call (y' := vi y8.1) (obx := [some (.row 2 [.agg [eS 3 eStocked a0, .own 1 0 v7.length]]), some (.row 1 (List.map vi v7))]) (oby := [some (.row 2 [.agg [eS 3 eStocked a0, .own 1 0 v7.length]]), some (.row 1 (List.map vi y8.2))]) (ob2 := [some (.row 2 [.agg [eS 3 eStocked a0, .own 1 0 v7.length]]), some (.row 1 (List.map vi y8.2)), some (.row 3 [.agg [vt ((ix a1 v6).Instrument), vt ((ix a1 v6).Part), vi ((ix a1 v6).Count)]])]) _ _ (cy (I0 50 (.call 111 [(.t 48), (.t 49)]))) rfl (restore_shelf_take_ok n a0 v7 (ix a1 v6) y8 hy8) [0, 1] (by kernel_rfl) (.cons rfl (.cons rfl (.cons rfl .nil))) (by kernel_rfl) (by kernel_rfl) (.cons rfl (.same (row_ren vi_frz _ _ _) .nil)) (by kernel_rfl) (.cons rfl (.same (row_ren vi_frz _ _ _) .nil)) (by kernel_rfl)) ?_
      obtain ⟨c7, h⟩ := chk_some h
      refine RegJ.sees (S' := ⟨[(7, .ptr 0 0 0), (42, eS 3 ePartPromise a1), (43, vi (a1.length : Int)), (44, vi v6), (48, .ptr 0 0 0), (49, .agg [vt ((ix a1 v6).Instrument), vt ((ix a1 v6).Part), vi ((ix a1 v6).Count)]), (50, vi y8.1)], [some (.row 2 [.agg [eS 3 eStocked a0, .own 1 0 y8.2.length]]), some (.row 1 (List.map vi y8.2)), some (.row 3 [.agg [vt ((ix a1 v6).Instrument), vt ((ix a1 v6).Part), vi ((ix a1 v6).Count)]])]⟩) (Sees.cov (Cov.mk2 (rs := [0, 1, 2]) (by decide) rfl rfl (.cons (.inl rfl) (.cons (.inl rfl) (.cons (.inl rfl) (.cons (.inl rfl) (.cons (.inl rfl) (.cons (.inl rfl) (.cons (.inl rfl) .nil))))))) (.cons (by rw [show v7.length = y8.2.length from of_decide_eq_true c7]; rfl) (obRen_row vi_frz rfl (.cons rfl .nil))))) ?_
      refine jq 1 [(7, .ptr 0 0 0), (42, eS 3 ePartPromise a1), (43, vi (a1.length : Int)), (44, vi v6), (12, vi y8.1)] [some (.row 2 [.agg [eS 3 eStocked a0, .own 1 0 y8.2.length]]), some (.row 1 (List.map vi y8.2)), some (.row 3 [.agg [vt ((ix a1 v6).Instrument), vt ((ix a1 v6).Part), vi ((ix a1 v6).Count)]])] ?_
      refine sr [(7, .ptr 0 0 0), (42, eS 3 ePartPromise a1), (43, vi (a1.length : Int)), (44, vi v6), (12, vi y8.1), (52, vb (y8.1 != (0 : Int)))] [some (.row 2 [.agg [eS 3 eStocked a0, .own 1 0 y8.2.length]]), some (.row 1 (List.map vi y8.2)), some (.row 3 [.agg [vt ((ix a1 v6).Instrument), vt ((ix a1 v6).Part), vi ((ix a1 v6).Count)]])] ?_
      refine TriE.cond (b := (y8.1 != (0 : Int))) rfl (fun c8 => ?_) (fun c8 => ?_)
      · have h := cond_t h c8
        refine sr [(4, .p (.pointer none)), (5, vi y8.1)] [some (.row 2 [.agg [eS 3 eStocked a0, .own 1 0 y8.2.length]]), some (.row 1 (List.map vi y8.2)), some (.row 3 [.agg [vt ((ix a1 v6).Instrument), vt ((ix a1 v6).Part), vi ((ix a1 v6).Count)]])] ?_
        refine TriE.ret ?_
        have h := Option.some.inj h
        subst h
        exact DoneS.ret (S' := ⟨[(4, .p (.pointer none)), (5, vi y8.1)], []⟩) (sc [] (by decide) (by kernel_rfl) ObRen.nil rfl rfl) rfl rfl
      have h := cond_f h c8
      refine TriE.skip ?_
      refine TriE.regJ ?_
      obtain ⟨c9, h⟩ := chk_some h
      refine jv (vi ((v6 + 1 : Nat) : Int)) (cy (I0 54 (.bin .add false (.t 44) (.c (.p (.int .i64 1)))))) (r_addn (i := v6) (j := 1) rfl rfl c9) rfl ?_
      refine jq 1 [(7, .ptr 0 0 0), (42, eS 3 ePartPromise a1), (43, vi (a1.length : Int)), (44, vi ((v6 + 1 : Nat) : Int))] [some (.row 2 [.agg [eS 3 eStocked a0, .own 1 0 y8.2.length]]), some (.row 1 (List.map vi y8.2)), some (.row 3 [.agg [vt ((ix a1 v6).Instrument), vt ((ix a1 v6).Part), vi ((ix a1 v6).Count)]])] ?_
      exact Vs.intro (sc [0, 1] (by decide) (by kernel_rfl) (.cons rfl (obRen_row vi_frz rfl .nil)) rfl rfl) ⟨(v6 + 1, y8.2), rfl, h⟩
    have h := cond_f h c6
    refine TriE.exit ?_
    exact Vs.intro sy ⟨v7, rfl, h⟩
  intro k1 h
  refine sj ?_
  refine rn 1 [(1, eS 3 ePartPromise a1), (7, .ptr 0 0 0), (24, eS 3 eStocked a0)] [some (.row 2 [.agg [eS 3 eStocked a0, .emp]])] ?_
  refine jv (vi (a0.length : Int)) (cy (I0 25 (.len 0 (.t 24)))) (ok_len_m rfl) rfl ?_
  refine jq 1 [(1, eS 3 ePartPromise a1), (7, .ptr 0 0 0), (24, eS 3 eStocked a0), (25, vi (a0.length : Int)), (26, vi 0)] [some (.row 2 [.agg [eS 3 eStocked a0, .emp]])] ?_
  refine TriE.block ?_
  refine TriE.sees (S' := ⟨[(1, eS 3 ePartPromise a1), (7, .ptr 0 0 0), (24, eS 3 eStocked a0), (25, vi (a0.length : Int)), (26, vi 0)], [some (.row 2 [.agg [eS 3 eStocked a0, .own 1 0 ([] : List Int).length]]), some (.row 1 (List.map vi ([] : List Int)))]⟩) (Sees.trans (Sees.co (fr' := [(1, eS 3 ePartPromise a1), (7, .ptr 0 0 0), (24, eS 3 eStocked a0), (25, vi (a0.length : Int)), (26, vi 0)]) (ob' := [some (.row 2 [.agg [eS 3 eStocked a0, .own 1 0 0]])]) (.cons .same (.cons .same (.cons .same (.cons .same (.cons .same .nil))))) (.cell (.cons .same (.cons .own .nil)) rfl .nil) 1) sy) ?_
  refine TriE.loopN h (fun (t : Nat × (List Int)) => match t with | (v2, v3) => St.mk [(1, eS 3 ePartPromise a1), (7, .ptr 0 0 0), (24, eS 3 eStocked a0), (25, vi (a0.length : Int)), (26, vi v2)] [some (.row 2 [.agg [eS 3 eStocked a0, .own 1 0 v3.length]]), some (.row 1 (List.map vi v3))]) rfl ?_
  clear h
  rintro back ⟨v2, v3⟩ h
  dsimp only [restore_shelfOf_L1] at h
  refine sj ?_
  refine jv (vb (decide (v2 < a0.length))) (cy (I0 27 (.bin .lss false (.t 26) (.t 25)))) (n_lss (i := v2) (j := a0.length) rfl rfl) rfl ?_
  refine jp [(1, eS 3 ePartPromise a1), (7, .ptr 0 0 0), (24, eS 3 eStocked a0), (25, vi (a0.length : Int)), (26, vi v2), (27, vb (decide (v2 < a0.length)))] ?_
  refine TriE.seq ?_
  refine TriE.cond (b := decide (v2 < a0.length)) rfl (fun c3 => ?_) (fun c3 => ?_)
  · have h := cond_t h c3
    refine TriE.skip ?_
    refine TriE.seq ?_
    refine TriE.block ?_
    refine sj ?_
    refine jv (.fptr 3 (List.map eStocked a0) v2 0) (cy (I0 28 (.iaddr 3 (.t 24) (.t 26)))) (ok_iaddr_m (j := v2) rfl rfl rfl c3) rfl ?_
    refine jv (.agg [vt ((ix a0 v2).Part), vi ((ix a0 v2).Cents), vi ((ix a0 v2).Count)]) (cy (I0 29 (.load true 3 (.t 28)))) (ok_load_fm (v := .agg [vt ((ix a0 v2).Part), vi ((ix a0 v2).Cents), vi ((ix a0 v2).Count)]) rfl c3 rfl) rfl ?_
    refine jq 2 [(1, eS 3 ePartPromise a1), (7, .ptr 0 0 0), (24, eS 3 eStocked a0), (25, vi (a0.length : Int)), (26, vi v2), (9, .ptr 2 0 0)] [some (.row 2 [.agg [eS 3 eStocked a0, .own 1 0 v3.length]]), some (.row 1 (List.map vi v3)), some (.row 3 [.agg [vt ((ix a0 v2).Part), vi ((ix a0 v2).Cents), vi ((ix a0 v2).Count)]])] ?_
    refine TriE.sees (Sees.less (fr' := [(1, eS 3 ePartPromise a1), (7, .ptr 0 0 0), (24, eS 3 eStocked a0), (25, vi (a0.length : Int)), (26, vi v2), (9, .ptr 2 0 0)]) (.cons rfl (.cons rfl (.cons rfl (.cons rfl (.cons rfl (.cons rfl .nil))))))) ?_
    refine TriE.draw (by kernel_rfl) ?_
    refine RegD.run 8 [(37, .own 10 0 1), (36, vi ((ix a0 v2).Count)), (35, .ptr 2 0 2), (34, .own 1 0 v3.length), (33, .ptr 0 0 1), (32, .ptr 0 0 0), (31, .ptr 0 0 0), (30, .ptr 0 0 0), (1, eS 3 ePartPromise a1), (7, .ptr 0 0 0), (24, eS 3 eStocked a0), (25, vi (a0.length : Int)), (26, vi v2), (9, .ptr 2 0 0)] [some (.row 2 [.agg [eS 3 eStocked a0, .own 1 0 v3.length]]), some (.row 1 (List.map vi v3)), some (.row 3 [.agg [vt ((ix a0 v2).Part), vi ((ix a0 v2).Cents), vi ((ix a0 v2).Count)]]), none, none, none, none, none, none, none, some (.row 1 [vi ((ix a0 v2).Count)])] (by kernel_rfl) ?_
    obtain ⟨c4, h⟩ := chk_some h
    refine de (.own 11 0 ((v3 ++ ([(ix a0 v2).Count] : List Int)).length)) [some (.row 2 [.agg [eS 3 eStocked a0, .own 1 0 v3.length]]), none, some (.row 3 [.agg [vt ((ix a0 v2).Part), vi ((ix a0 v2).Cents), vi ((ix a0 v2).Count)]]), none, none, none, none, none, none, none, some (.row 1 [vi ((ix a0 v2).Count)]), some (.row 1 (List.map vi (v3 ++ ([(ix a0 v2).Count] : List Int))))] (cy (I0 38 (.app 1 8 (.t 34) (.t 37)))) (ok_app_own (l := v3) (l2 := ([(ix a0 v2).Count] : List Int)) (e := vi) (u := .own 10 0 1) rfl rfl rfl rfl rfl c4) rfl rfl rfl ?_
    refine RegD.run 3 [(40, .ptr 0 0 1), (39, .ptr 0 0 0), (38, .own 11 0 ((v3 ++ ([(ix a0 v2).Count] : List Int)).length)), (37, .own 10 0 1), (36, vi ((ix a0 v2).Count)), (35, .ptr 2 0 2), (34, .own 1 0 v3.length), (33, .ptr 0 0 1), (32, .ptr 0 0 0), (31, .ptr 0 0 0), (30, .ptr 0 0 0), (1, eS 3 ePartPromise a1), (7, .ptr 0 0 0), (24, eS 3 eStocked a0), (25, vi (a0.length : Int)), (26, vi v2), (9, .ptr 2 0 0)] [some (.row 2 [.agg [eS 3 eStocked a0, .own 11 0 ((v3 ++ ([(ix a0 v2).Count] : List Int)).length)]]), none, some (.row 3 [.agg [vt ((ix a0 v2).Part), vi ((ix a0 v2).Cents), vi ((ix a0 v2).Count)]]), none, none, none, none, none, none, none, some (.row 1 [vi ((ix a0 v2).Count)]), some (.row 1 (List.map vi (v3 ++ ([(ix a0 v2).Count] : List Int)))), none, none, none] (by kernel_rfl) ?_
    refine RegD.done rfl (by kernel_rfl) (S' := ⟨[(1, eS 3 ePartPromise a1), (7, .ptr 0 0 0), (24, eS 3 eStocked a0), (25, vi (a0.length : Int)), (26, vi v2)], [some (.row 2 [.agg [eS 3 eStocked a0, .own 1 0 ((v3 ++ ([(ix a0 v2).Count] : List Int)).length)]]), some (.row 1 (List.map vi (v3 ++ ([(ix a0 v2).Count] : List Int))))]⟩) (sc [0, 11] (by decide) (by kernel_rfl) (.cons rfl (obRen_row vi_frz rfl .nil)) rfl rfl) ?_
    refine TriE.regJ ?_
    obtain ⟨c5, h⟩ := chk_some h
    refine jv (vi ((v2 + 1 : Nat) : Int)) (cy (I0 41 (.bin .add false (.t 26) (.c (.p (.int .i64 1)))))) (r_addn (i := v2) (j := 1) rfl rfl c5) rfl ?_
    refine jq 1 [(1, eS 3 ePartPromise a1), (7, .ptr 0 0 0), (24, eS 3 eStocked a0), (25, vi (a0.length : Int)), (26, vi ((v2 + 1 : Nat) : Int))] [some (.row 2 [.agg [eS 3 eStocked a0, .own 1 0 ((v3 ++ ([(ix a0 v2).Count] : List Int)).length)]]), some (.row 1 (List.map vi (v3 ++ ([(ix a0 v2).Count] : List Int))))] ?_
    exact Vs.intro sy ⟨(v2 + 1, (v3 ++ ([(ix a0 v2).Count] : List Int))), rfl, h⟩
  have h := cond_f h c3
  refine TriE.exit ?_
  exact Vs.intro sy ⟨v3, rfl, h⟩
theorem restore_checkCounts_f1_ok (n : Nat) (a0 : PartCount) (a1 : Str) (a2 : Int) (r : Unit) (h : restore_checkCounts_f1 n a0 a1 a2 = some r) : FnL Tryz.prog 168 [.agg [vt a0.Part, vi a0.Count], .ptr 0 0 0] [some (.row 2 [.agg [vt a1, vi a2]])] (vb (a0.Part == a1)) [some (.row 2 [.agg [vt a1, vi a2]])] := by
  dsimp only [restore_checkCounts_f1] at h
  refine FnL.ofS (ts := [3]) Tryz.call168 Tryz.func168 rfl rfl (Nat.le_of_ble_eq_true rfl) (Nat.le_of_ble_eq_true rfl) (hall_of (.cons rfl .nil)) ?_
  refine sr [(1, .ptr 0 0 0), (2, .ptr 1 0 0)] [some (.row 2 [.agg [vt a1, vi a2]]), some (.row 2 [.agg [vt a0.Part, vi a0.Count]])] ?_
  refine sr [(3, vb (a0.Part == a1))] [some (.row 2 [.agg [vt a1, vi a2]]), some (.row 2 [.agg [vt a0.Part, vi a0.Count]])] ?_
  refine TriE.ret ?_
  have h := Option.some.inj h
  subst h
  exact DoneS.ret (S' := ⟨[(3, vb (a0.Part == a1))], [some (.row 2 [.agg [vt a1, vi a2]])]⟩) (sc [0] (by decide) (by kernel_rfl) (.cons rfl .nil) rfl rfl) rfl rfl
theorem slices_IndexFunc_PartCount_ok (n : Nat) (a0 : List PartCount) (a1 : Str) (a2 : Int) (r : Int) (h : slices_IndexFunc_PartCount n a0 a1 a2 = some r) : FnL Tryz.prog 201 [eS 2 ePartCount a0, .fn (.func 168) [] [.ptr 0 0 0]] [some (.row 2 [.agg [vt a1, vi a2]])] (vi r) [some (.row 2 [.agg [vt a1, vi a2]])] := by
  dsimp only [slices_IndexFunc_PartCount] at h
  refine FnL.ofS (ts := [4]) Tryz.call201 Tryz.func201 rfl rfl (Nat.le_of_ble_eq_true rfl) (Nat.le_of_ble_eq_true rfl) (hall_of (.cons rfl .nil)) ?_
  refine sr [(0, eS 2 ePartCount a0), (1, .fn (.func 168) [] [.ptr 0 0 0])] [some (.row 2 [.agg [vt a1, vi a2]])] ?_
  refine TriE.seqK h (fun (_ : Unit) => St.mk [] [some (.row 2 [.agg [vt a1, vi a2]])]) ?_ ?_
  · rintro ⟨⟩ h
    refine sr [(4, vi (-1))] [some (.row 2 [.agg [vt a1, vi a2]])] ?_
    refine TriE.ret ?_
    have h := Option.some.inj h
    subst h
    exact DoneS.ret (S' := ⟨[(4, vi (-1))], [some (.row 2 [.agg [vt a1, vi a2]])]⟩) Sees.refl rfl rfl
  intro k1 h
  refine sj ?_
  refine rn 1 [(0, eS 2 ePartCount a0), (1, .fn (.func 168) [] [.ptr 0 0 0]), (6, eS 2 ePartCount a0)] [some (.row 2 [.agg [vt a1, vi a2]])] ?_
  refine jv (vi (a0.length : Int)) (cy (I0 7 (.len 0 (.t 6)))) (ok_len_m rfl) rfl ?_
  refine jq 1 [(0, eS 2 ePartCount a0), (1, .fn (.func 168) [] [.ptr 0 0 0]), (7, vi (a0.length : Int)), (8, vi 0)] [some (.row 2 [.agg [vt a1, vi a2]])] ?_
  refine TriE.block ?_
  refine TriE.sees (S' := ⟨[(0, eS 2 ePartCount a0), (1, .fn (.func 168) [] [.ptr 0 0 0]), (7, vi (a0.length : Int)), (8, vi 0)], [some (.row 2 [.agg [vt a1, vi a2]])]⟩) sy ?_
  refine TriE.loopN h (fun (v2 : Nat) => St.mk [(0, eS 2 ePartCount a0), (1, .fn (.func 168) [] [.ptr 0 0 0]), (7, vi (a0.length : Int)), (8, vi v2)] [some (.row 2 [.agg [vt a1, vi a2]])]) rfl ?_
  clear h
  rintro back v2 h
  dsimp only [slices_IndexFunc_PartCount_L1] at h
  refine sj ?_
  refine jv (vb (decide (v2 < a0.length))) (cy (I0 9 (.bin .lss false (.t 8) (.t 7)))) (n_lss (i := v2) (j := a0.length) rfl rfl) rfl ?_
  refine jp [(0, eS 2 ePartCount a0), (1, .fn (.func 168) [] [.ptr 0 0 0]), (7, vi (a0.length : Int)), (8, vi v2), (9, vb (decide (v2 < a0.length)))] ?_
  refine TriE.seq ?_
  refine TriE.cond (b := decide (v2 < a0.length)) rfl (fun c1 => ?_) (fun c1 => ?_)
  · have h := cond_t h c1
    refine TriE.skip ?_
    refine TriE.seq ?_
    refine TriE.block ?_
    refine sr [(0, eS 2 ePartCount a0), (1, .fn (.func 168) [] [.ptr 0 0 0]), (7, vi (a0.length : Int)), (8, vi v2), (5, vi v2)] [some (.row 2 [.agg [vt a1, vi a2]])] ?_
    refine sj ?_
    refine rn 3 [(0, eS 2 ePartCount a0), (1, .fn (.func 168) [] [.ptr 0 0 0]), (7, vi (a0.length : Int)), (8, vi v2), (5, vi v2), (11, .fn (.func 168) [] [.ptr 0 0 0]), (12, eS 2 ePartCount a0), (13, vi v2)] [some (.row 2 [.agg [vt a1, vi a2]])] ?_
    refine jv (.fptr 2 (List.map ePartCount a0) v2 0) (cy (I0 14 (.iaddr 2 (.t 12) (.t 13)))) (ok_iaddr_m (j := v2) rfl rfl rfl c1) rfl ?_
    refine jv (.agg [vt ((ix a0 v2).Part), vi ((ix a0 v2).Count)]) (cy (I0 15 (.load true 2 (.t 14)))) (ok_load_fm (v := .agg [vt ((ix a0 v2).Part), vi ((ix a0 v2).Count)]) rfl c1 rfl) rfl ?_
    obtain ⟨y3, hy3, h⟩ := bind_some h
    refine RegJ.op (Op1.dyn (y' := vb ((ix a0 v2).Part == a1)) (obx := [some (.row 2 [.agg [vt a1, vi a2]])]) (oby := [some (.row 2 [.agg [vt a1, vi a2]])]) (ob2 := [some (.row 2 [.agg [vt a1, vi a2]])]) _ _ _ (cy (I0 16 (.dyn (.t 11) [(.t 15)]))) rfl rfl (restore_checkCounts_f1_ok n (ix a0 v2) a1 a2 y3 hy3) [0] (by kernel_rfl) (.cons rfl (.cons rfl .nil)) (by kernel_rfl) (by kernel_rfl) (.cons rfl .nil) (by kernel_rfl) (.cons rfl .nil) (by kernel_rfl)) ?_
    refine jp [(0, eS 2 ePartCount a0), (1, .fn (.func 168) [] [.ptr 0 0 0]), (7, vi (a0.length : Int)), (8, vi v2), (5, vi v2), (16, vb ((ix a0 v2).Part == a1))] ?_
    refine TriE.cond (b := ((ix a0 v2).Part == a1)) rfl (fun c2 => ?_) (fun c2 => ?_)
    · have h := cond_t h c2
      refine sr [(4, vi v2)] [some (.row 2 [.agg [vt a1, vi a2]])] ?_
      refine TriE.ret ?_
      have h := Option.some.inj h
      subst h
      exact DoneS.ret (S' := ⟨[(4, vi v2)], [some (.row 2 [.agg [vt a1, vi a2]])]⟩) Sees.refl rfl rfl
    have h := cond_f h c2
    refine TriE.skip ?_
    refine TriE.regJ ?_
    obtain ⟨c3, h⟩ := chk_some h
    refine jv (vi ((v2 + 1 : Nat) : Int)) (cy (I0 18 (.bin .add false (.t 8) (.c (.p (.int .i64 1)))))) (r_addn (i := v2) (j := 1) rfl rfl c3) rfl ?_
    refine jq 1 [(0, eS 2 ePartCount a0), (1, .fn (.func 168) [] [.ptr 0 0 0]), (7, vi (a0.length : Int)), (8, vi ((v2 + 1 : Nat) : Int))] [some (.row 2 [.agg [vt a1, vi a2]])] ?_
    exact Vs.intro sy ⟨(v2 + 1), rfl, h⟩
  have h := cond_f h c1
  refine TriE.exit ?_
  exact Vs.intro sy ⟨(), rfl, h⟩
theorem slices_ContainsFunc_PartCount_ok (n : Nat) (a0 : List PartCount) (a1 : Str) (a2 : Int) (r : Bool) (h : slices_ContainsFunc_PartCount n a0 a1 a2 = some r) : FnL Tryz.prog 167 [eS 2 ePartCount a0, .fn (.func 168) [] [.ptr 0 0 0]] [some (.row 2 [.agg [vt a1, vi a2]])] (vb r) [some (.row 2 [.agg [vt a1, vi a2]])] := by
  dsimp only [slices_ContainsFunc_PartCount] at h
  refine FnL.ofS (ts := [4]) Tryz.call167 Tryz.func167 rfl rfl (Nat.le_of_ble_eq_true rfl) (Nat.le_of_ble_eq_true rfl) (hall_of (.cons rfl .nil)) ?_
  refine sr [(0, eS 2 ePartCount a0), (1, .fn (.func 168) [] [.ptr 0 0 0])] [some (.row 2 [.agg [vt a1, vi a2]])] ?_
  refine sj ?_
  refine rn 2 [(5, eS 2 ePartCount a0), (6, .fn (.func 168) [] [.ptr 0 0 0])] [some (.row 2 [.agg [vt a1, vi a2]])] ?_
  obtain ⟨y1, hy1, h⟩ := bind_some h
  refine RegJ.op (Op1.call (y' := vi y1) (obx := [some (.row 2 [.agg [vt a1, vi a2]])]) (oby := [some (.row 2 [.agg [vt a1, vi a2]])]) (ob2 := [some (.row 2 [.agg [vt a1, vi a2]])]) _ _ (cy (I0 7 (.call 201 [(.t 5), (.t 6)]))) rfl (slices_IndexFunc_PartCount_ok n a0 a1 a2 y1 hy1) [0] (by kernel_rfl) (.cons rfl (.cons rfl (.cons rfl .nil))) (by kernel_rfl) (by kernel_rfl) (.cons rfl .nil) (by kernel_rfl) (.cons rfl .nil) (by kernel_rfl)) ?_
  refine jq 2 [(4, vb (decide ((0 : Int) ≤ y1)))] [some (.row 2 [.agg [vt a1, vi a2]])] ?_
  refine TriE.ret ?_
  have h := Option.some.inj h
  subst h
  exact DoneS.ret (S' := ⟨[(4, vb (decide ((0 : Int) ≤ y1)))], [some (.row 2 [.agg [vt a1, vi a2]])]⟩) Sees.refl rfl rfl
theorem restore_checkCounts_ok (n : Nat) (a0 : List PartCount) (a1 : Int) (r : Int) (h : restore_checkCounts n a0 a1 = some r) : FnL Tryz.prog 108 [eS 2 ePartCount a0, vi a1] [] (vi r) [] := by
  dsimp only [restore_checkCounts] at h
  refine FnL.ofS (ts := [4]) Tryz.call108 Tryz.func108 rfl rfl (Nat.le_of_ble_eq_true rfl) (Nat.le_of_ble_eq_true rfl) (fun j h => absurd h (Nat.not_lt_zero j)) ?_
  refine sr [(0, eS 2 ePartCount a0), (1, vi a1)] [] ?_
  refine TriE.seqK h (fun (_ : Unit) => St.mk [] []) ?_ ?_
  · rintro ⟨⟩ h
    refine sr [(4, vi 0)] [] ?_
    refine TriE.ret ?_
    have h := Option.some.inj h
    subst h
    exact DoneS.ret (S' := ⟨[(4, vi 0)], []⟩) Sees.refl rfl rfl
  intro k1 h
  refine sj ?_
  refine rn 1 [(0, eS 2 ePartCount a0), (1, vi a1), (7, eS 2 ePartCount a0)] [] ?_
  refine jv (vi (a0.length : Int)) (cy (I0 8 (.len 0 (.t 7)))) (ok_len_m rfl) rfl ?_
  refine jq 1 [(0, eS 2 ePartCount a0), (1, vi a1), (7, eS 2 ePartCount a0), (8, vi (a0.length : Int)), (9, vi 0)] [] ?_
  refine TriE.block ?_
  refine TriE.sees (S' := ⟨[(0, eS 2 ePartCount a0), (1, vi a1), (7, eS 2 ePartCount a0), (8, vi (a0.length : Int)), (9, vi 0)], []⟩) sy ?_
  refine TriE.loopN h (fun (v4 : Nat) => St.mk [(0, eS 2 ePartCount a0), (1, vi a1), (7, eS 2 ePartCount a0), (8, vi (a0.length : Int)), (9, vi v4)] []) rfl ?_
  clear h
  rintro back v4 h
  dsimp only [restore_checkCounts_L1] at h
  refine sj ?_
  refine jv (vb (decide (v4 < a0.length))) (cy (I0 10 (.bin .lss false (.t 9) (.t 8)))) (n_lss (i := v4) (j := a0.length) rfl rfl) rfl ?_
  refine jp [(0, eS 2 ePartCount a0), (1, vi a1), (7, eS 2 ePartCount a0), (8, vi (a0.length : Int)), (9, vi v4), (10, vb (decide (v4 < a0.length)))] ?_
  refine TriE.seq ?_
  refine TriE.cond (b := decide (v4 < a0.length)) rfl (fun c1 => ?_) (fun c1 => ?_)
  · have h := cond_t h c1
    refine TriE.skip ?_
    refine TriE.seq ?_
    refine TriE.block ?_
    refine sj ?_
    refine rn 1 [(0, eS 2 ePartCount a0), (1, vi a1), (7, eS 2 ePartCount a0), (8, vi (a0.length : Int)), (9, vi v4), (11, vi v4)] [] ?_
    refine jv (.fptr 2 (List.map ePartCount a0) v4 0) (cy (I0 12 (.iaddr 2 (.t 7) (.t 9)))) (ok_iaddr_m (j := v4) rfl rfl rfl c1) rfl ?_
    refine jv (.agg [vt ((ix a0 v4).Part), vi ((ix a0 v4).Count)]) (cy (I0 13 (.load true 2 (.t 12)))) (ok_load_fm (v := .agg [vt ((ix a0 v4).Part), vi ((ix a0 v4).Count)]) rfl c1 rfl) rfl ?_
    refine jq 3 [(0, eS 2 ePartCount a0), (1, vi a1), (7, eS 2 ePartCount a0), (8, vi (a0.length : Int)), (9, vi v4), (6, .ptr 0 0 0), (5, vi v4)] [some (.row 2 [.agg [vt ((ix a0 v4).Part), vi ((ix a0 v4).Count)]])] ?_
    refine TriE.block ?_
    refine sj ?_
    refine rn 2 [(0, eS 2 ePartCount a0), (1, vi a1), (7, eS 2 ePartCount a0), (8, vi (a0.length : Int)), (9, vi v4), (6, .ptr 0 0 0), (5, vi v4), (16, vt ((ix a0 v4).Part))] [some (.row 2 [.agg [vt ((ix a0 v4).Part), vi ((ix a0 v4).Count)]])] ?_
    obtain ⟨y5, hy5, h⟩ := bind_some h
    refine RegJ.op (Op1.call (y' := vb y5) (obx := []) (oby := []) (ob2 := [some (.row 2 [.agg [vt ((ix a0 v4).Part), vi ((ix a0 v4).Count)]])]) _ _ (cy (I0 17 (.call 89 [(.t 16)]))) rfl (restore_isName_ok n ((ix a0 v4).Part) y5 hy5) [] (by kernel_rfl) (.cons rfl (.cons rfl .nil)) (by kernel_rfl) (by kernel_rfl) ObsRen.nil (by kernel_rfl) ObsRen.nil (by kernel_rfl)) ?_
    refine jq 2 [(0, eS 2 ePartCount a0), (1, vi a1), (7, eS 2 ePartCount a0), (8, vi (a0.length : Int)), (9, vi v4), (6, .ptr 0 0 0), (5, vi v4), (14, vb (!y5))] [some (.row 2 [.agg [vt ((ix a0 v4).Part), vi ((ix a0 v4).Count)]])] ?_
    refine TriE.cond (b := !y5) rfl (fun c2 => ?_) (fun c2 => ?_)
    · have h := cond_t h c2
      refine sr [(4, vi 4)] [some (.row 2 [.agg [vt ((ix a0 v4).Part), vi ((ix a0 v4).Count)]])] ?_
      refine TriE.ret ?_
      have h := Option.some.inj h
      subst h
      exact DoneS.ret (S' := ⟨[(4, vi 4)], []⟩) (sc [] (by decide) (by kernel_rfl) ObRen.nil rfl rfl) rfl rfl
    have h := cond_f h c2
    refine sj ?_
    refine rn 2 [(0, eS 2 ePartCount a0), (1, vi a1), (7, eS 2 ePartCount a0), (8, vi (a0.length : Int)), (9, vi v4), (6, .ptr 0 0 0), (20, eS 2 ePartCount a0), (21, vi v4)] [some (.row 2 [.agg [vt ((ix a0 v4).Part), vi ((ix a0 v4).Count)]])] ?_
    obtain ⟨c3, h⟩ := chk_some h
    refine jv (eS 2 ePartCount (List.take v4 a0)) (cy (I0 22 (.slc 2 (.t 20) none (some (.t 21)) none))) (ok_slc_hi (j := v4) rfl rfl rfl c3) rfl ?_
    refine rn 1 [(0, eS 2 ePartCount a0), (1, vi a1), (7, eS 2 ePartCount a0), (8, vi (a0.length : Int)), (9, vi v4), (6, .ptr 0 0 0), (22, eS 2 ePartCount (List.take v4 a0)), (23, .fn (.func 168) [] [.ptr 0 0 0])] [some (.row 2 [.agg [vt ((ix a0 v4).Part), vi ((ix a0 v4).Count)]])] ?_
    obtain ⟨y6, hy6, h⟩ := bind_some h
    refine RegJ.op (Op1.call (y' := vb y6) (obx := [some (.row 2 [.agg [vt ((ix a0 v4).Part), vi ((ix a0 v4).Count)]])]) (oby := [some (.row 2 [.agg [vt ((ix a0 v4).Part), vi ((ix a0 v4).Count)]])]) (ob2 := [some (.row 2 [.agg [vt ((ix a0 v4).Part), vi ((ix a0 v4).Count)]])]) _ _ (cy (I0 24 (.call 167 [(.t 22), (.t 23)]))) rfl (slices_ContainsFunc_PartCount_ok n (List.take v4 a0) ((ix a0 v4).Part) ((ix a0 v4).Count) y6 hy6) [0] (by kernel_rfl) (.cons rfl (.cons rfl (.cons rfl .nil))) (by kernel_rfl) (by kernel_rfl) (.cons rfl .nil) (by kernel_rfl) (.cons rfl .nil) (by kernel_rfl)) ?_
    refine jq 1 [(0, eS 2 ePartCount a0), (1, vi a1), (7, eS 2 ePartCount a0), (8, vi (a0.length : Int)), (9, vi v4), (6, .ptr 0 0 0), (19, vb y6)] [some (.row 2 [.agg [vt ((ix a0 v4).Part), vi ((ix a0 v4).Count)]])] ?_
    refine TriE.cond (b := y6) rfl (fun c4 => ?_) (fun c4 => ?_)
    · have h := cond_t h c4
      refine sr [(4, vi 5)] [some (.row 2 [.agg [vt ((ix a0 v4).Part), vi ((ix a0 v4).Count)]])] ?_
      refine TriE.ret ?_
      have h := Option.some.inj h
      subst h
      exact DoneS.ret (S' := ⟨[(4, vi 5)], []⟩) (sc [] (by decide) (by kernel_rfl) ObRen.nil rfl rfl) rfl rfl
    have h := cond_f h c4
    refine sj ?_
    refine rn 3 [(0, eS 2 ePartCount a0), (1, vi a1), (7, eS 2 ePartCount a0), (8, vi (a0.length : Int)), (9, vi v4), (27, vi ((ix a0 v4).Count)), (28, vi a1)] [some (.row 2 [.agg [vt ((ix a0 v4).Part), vi ((ix a0 v4).Count)]])] ?_
    obtain ⟨y7, hy7, h⟩ := bind_some h
    refine RegJ.op (Op1.call (y' := vb ((decide (1 ≤ ((ix a0 v4).Count))) && (decide (((ix a0 v4).Count) ≤ a1)))) (obx := []) (oby := []) (ob2 := [some (.row 2 [.agg [vt ((ix a0 v4).Part), vi ((ix a0 v4).Count)]])]) _ _ (cy (I0 29 (.call 91 [(.t 27), (.c (.p (.int .i64 1))), (.t 28)]))) rfl (restore_within_ok n ((ix a0 v4).Count) 1 a1 y7 hy7) [] (by kernel_rfl) (.cons rfl (.cons rfl (.cons rfl (.cons rfl .nil)))) (by kernel_rfl) (by kernel_rfl) ObsRen.nil (by kernel_rfl) ObsRen.nil (by kernel_rfl)) ?_
    refine jq 2 [(0, eS 2 ePartCount a0), (1, vi a1), (7, eS 2 ePartCount a0), (8, vi (a0.length : Int)), (9, vi v4), (25, vb (!((decide (1 ≤ ((ix a0 v4).Count))) && (decide (((ix a0 v4).Count) ≤ a1)))))] [some (.row 2 [.agg [vt ((ix a0 v4).Part), vi ((ix a0 v4).Count)]])] ?_
    refine TriE.cond (b := !((decide (1 ≤ ((ix a0 v4).Count))) && (decide (((ix a0 v4).Count) ≤ a1)))) rfl (fun c5 => ?_) (fun c5 => ?_)
    · have h := cond_t h c5
      refine sr [(4, vi 2)] [some (.row 2 [.agg [vt ((ix a0 v4).Part), vi ((ix a0 v4).Count)]])] ?_
      refine TriE.ret ?_
      have h := Option.some.inj h
      subst h
      exact DoneS.ret (S' := ⟨[(4, vi 2)], []⟩) (sc [] (by decide) (by kernel_rfl) ObRen.nil rfl rfl) rfl rfl
    have h := cond_f h c5
    refine TriE.skip ?_
    refine TriE.regJ ?_
    obtain ⟨c6, h⟩ := chk_some h
    refine jv (vi ((v4 + 1 : Nat) : Int)) (cy (I0 31 (.bin .add false (.t 9) (.c (.p (.int .i64 1)))))) (r_addn (i := v4) (j := 1) rfl rfl c6) rfl ?_
    refine jq 1 [(0, eS 2 ePartCount a0), (1, vi a1), (7, eS 2 ePartCount a0), (8, vi (a0.length : Int)), (9, vi ((v4 + 1 : Nat) : Int))] [some (.row 2 [.agg [vt ((ix a0 v4).Part), vi ((ix a0 v4).Count)]])] ?_
    exact Vs.intro (sc [] (by decide) (by kernel_rfl) ObRen.nil rfl rfl) ⟨(v4 + 1), rfl, h⟩
  have h := cond_f h c1
  refine TriE.exit ?_
  exact Vs.intro sy ⟨(), rfl, h⟩
theorem restore_MissingParts_ok (n : Nat) (a0 : List Stocked) (a1 : List PartPromise) (a2 : List PartCount) (r : Int × (List PartCount)) (h : restore_MissingParts n a0 a1 a2 = some r) : FnL Tryz.prog 41 [eS 3 eStocked a0, eS 3 ePartPromise a1, eS 2 ePartCount a2] [] (.tup [eS 2 ePartCount r.2, vi r.1]) [] := by
  dsimp only [restore_MissingParts] at h
  refine FnL.ofS (ts := [6, 7]) Tryz.call41 Tryz.func41 rfl rfl (Nat.le_of_ble_eq_true rfl) (Nat.le_of_ble_eq_true rfl) (fun j h => absurd h (Nat.not_lt_zero j)) ?_
  refine sr [(0, eS 3 eStocked a0), (1, eS 3 ePartPromise a1), (2, eS 2 ePartCount a2)] [] ?_
  refine TriE.seqK2 h (fun (v4 : Int) => St.mk [(0, eS 3 eStocked a0), (2, eS 2 ePartCount a2), (8, .p (.pointer none)), (9, vi v4)] []) (fun (v13 : (List Int)) => St.mk [(0, eS 3 eStocked a0), (2, eS 2 ePartCount a2), (8, .ptr 0 0 0), (9, vi 0)] [some (.row 2 [.agg [eS 3 eStocked a0, .own 1 0 v13.length]]), some (.row 1 (List.map vi v13))]) ?_ ?_ ?_
  · rintro v4 h
    refine TriE.seq ?_
    refine sr [(0, eS 3 eStocked a0), (2, eS 2 ePartCount a2), (8, .p (.pointer none)), (9, vi v4), (22, vb (v4 != (0 : Int)))] [] ?_
    refine TriE.cond (b := (v4 != (0 : Int))) rfl (fun c1 => ?_) (fun c1 => ?_)
    · have h := cond_t h c1
      refine sr [(6, .emp), (7, vi v4)] [] ?_
      refine TriE.ret ?_
      have h := Option.some.inj h
      subst h
      exact DoneS.ret (S' := ⟨[(6, eS 2 ePartCount ([] : List PartCount)), (7, vi v4)], []⟩) (Sees.trans (Sees.vco (fr' := [(6, eS 2 ePartCount ([] : List PartCount)), (7, vi v4)]) (.cons .sl (.cons .same .nil))) sy) rfl rfl
    have h := cond_f h c1
    refine TriE.skip ?_
    refine TriE.seq ?_
    refine sj ?_
    refine rn 1 [(0, eS 3 eStocked a0), (2, eS 2 ePartCount a2), (8, .p (.pointer none)), (24, eS 2 ePartCount a2)] [] ?_
    refine jv (vi (a2.length : Int)) (cy (I0 25 (.len 0 (.t 24)))) (ok_len_m rfl) rfl ?_
    refine jv (vb (decide (60 < a2.length))) (cy (I0 26 (.bin .gtr false (.t 25) (.c (.p (.int .i64 60)))))) (n_gtr (i := a2.length) (j := 60) rfl rfl) rfl ?_
    refine jp [(0, eS 3 eStocked a0), (2, eS 2 ePartCount a2), (8, .p (.pointer none)), (26, vb (decide (60 < a2.length)))] ?_
    refine TriE.cond (b := decide (60 < a2.length)) rfl (fun c2 => ?_) (fun c2 => ?_)
    · have h := cond_t h c2
      refine sr [(6, .emp), (7, vi 8)] [] ?_
      refine TriE.ret ?_
      have h := Option.some.inj h
      subst h
      exact DoneS.ret (S' := ⟨[(6, eS 2 ePartCount ([] : List PartCount)), (7, vi 8)], []⟩) (Sees.trans (Sees.vco (fr' := [(6, eS 2 ePartCount ([] : List PartCount)), (7, vi 8)]) (.cons .sl (.cons .same .nil))) sy) rfl rfl
    have h := cond_f h c2
    refine TriE.skip ?_
    refine TriE.seq ?_
    refine sj ?_
    refine rn 1 [(0, eS 3 eStocked a0), (2, eS 2 ePartCount a2), (8, .p (.pointer none)), (27, eS 2 ePartCount a2)] [] ?_
    obtain ⟨y5, hy5, h⟩ := bind_some h
    refine RegJ.op (Op1.call (y' := vi y5) (obx := []) (oby := []) (ob2 := []) _ _ (cy (I0 28 (.call 108 [(.t 27), (.c (.p (.int .i64 10000)))]))) rfl (restore_checkCounts_ok n a2 10000 y5 hy5) [] (by kernel_rfl) (.cons rfl (.cons rfl (.cons rfl .nil))) (by kernel_rfl) (by kernel_rfl) ObsRen.nil (by kernel_rfl) ObsRen.nil (by kernel_rfl)) ?_
    refine jq 1 [(0, eS 3 eStocked a0), (2, eS 2 ePartCount a2), (8, .p (.pointer none)), (10, vi y5)] [] ?_
    refine sr [(0, eS 3 eStocked a0), (2, eS 2 ePartCount a2), (8, .p (.pointer none)), (10, vi y5), (30, vb (y5 != (0 : Int)))] [] ?_
    refine TriE.cond (b := (y5 != (0 : Int))) rfl (fun c3 => ?_) (fun c3 => ?_)
    · have h := cond_t h c3
      refine sr [(6, .emp), (7, vi y5)] [] ?_
      refine TriE.ret ?_
      have h := Option.some.inj h
      subst h
      exact DoneS.ret (S' := ⟨[(6, eS 2 ePartCount ([] : List PartCount)), (7, vi y5)], []⟩) (Sees.trans (Sees.vco (fr' := [(6, eS 2 ePartCount ([] : List PartCount)), (7, vi y5)]) (.cons .sl (.cons .same .nil))) sy) rfl rfl
    have h := cond_f h c3
    refine TriE.skip ?_
    refine sr [(0, eS 3 eStocked a0), (2, eS 2 ePartCount a2), (8, .p (.pointer none)), (11, .emp)] [] ?_
    refine TriE.seqK h (fun (v12 : (List PartCount)) => St.mk [(11, .own 0 0 v12.length)] [some (.row 2 (List.map ePartCount v12))]) ?_ ?_
    · rintro v12 h
      refine sr [(6, .own 0 0 v12.length), (7, vi 0)] [some (.row 2 (List.map ePartCount v12))] ?_
      refine TriE.ret ?_
      have h := Option.some.inj h
      subst h
      exact DoneS.ret (S' := ⟨[(6, eS 2 ePartCount v12), (7, vi 0)], []⟩) (Sees.trans (Sees.freeze 0 (fr' := [(6, eS 2 ePartCount v12), (7, vi 0)]) (ob' := [none]) rfl (frz_row ePartCount_frzE _) (.cons (frz_full rfl) (.cons (.refl _) .nil)) rfl) (sc [] (by decide) (by kernel_rfl) ObRen.nil rfl rfl)) rfl rfl
    intro k3 h
    refine sj ?_
    refine rn 1 [(0, eS 3 eStocked a0), (8, .p (.pointer none)), (11, .emp), (32, eS 2 ePartCount a2)] [] ?_
    refine jv (vi (a2.length : Int)) (cy (I0 33 (.len 0 (.t 32)))) (ok_len_m rfl) rfl ?_
    refine jq 1 [(0, eS 3 eStocked a0), (8, .p (.pointer none)), (11, .emp), (32, eS 2 ePartCount a2), (33, vi (a2.length : Int)), (34, vi 0)] [] ?_
    refine TriE.block ?_
    refine TriE.sees (S' := ⟨[(0, eS 3 eStocked a0), (8, .p (.pointer none)), (11, .own 0 0 ([] : List PartCount).length), (32, eS 2 ePartCount a2), (33, vi (a2.length : Int)), (34, vi 0)], [some (.row 2 (List.map ePartCount ([] : List PartCount)))]⟩) (Sees.trans (Sees.co (fr' := [(0, eS 3 eStocked a0), (8, .p (.pointer none)), (11, .own 0 0 0), (32, eS 2 ePartCount a2), (33, vi (a2.length : Int)), (34, vi 0)]) (ob' := []) (.cons .same (.cons .same (.cons .own (.cons .same (.cons .same (.cons .same .nil)))))) ObCo.nil 2) sy) ?_
    refine TriE.loopN h (fun (t : (List PartCount) × Nat) => match t with | (v8, v9) => St.mk [(0, eS 3 eStocked a0), (8, .p (.pointer none)), (11, .own 0 0 v8.length), (32, eS 2 ePartCount a2), (33, vi (a2.length : Int)), (34, vi v9)] [some (.row 2 (List.map ePartCount v8))]) rfl ?_
    clear h
    rintro back ⟨v8, v9⟩ h
    dsimp only [restore_MissingParts_L1] at h
    refine sj ?_
    refine jv (vb (decide (v9 < a2.length))) (cy (I0 35 (.bin .lss false (.t 34) (.t 33)))) (n_lss (i := v9) (j := a2.length) rfl rfl) rfl ?_
    refine jp [(0, eS 3 eStocked a0), (8, .p (.pointer none)), (11, .own 0 0 v8.length), (32, eS 2 ePartCount a2), (33, vi (a2.length : Int)), (34, vi v9), (35, vb (decide (v9 < a2.length)))] ?_
    refine TriE.seq ?_
    refine TriE.cond (b := decide (v9 < a2.length)) rfl (fun c4 => ?_) (fun c4 => ?_)
    · have h := cond_t h c4
      refine TriE.skip ?_
      refine TriE.seqK h (fun (v11 : (List PartCount)) => St.mk [(0, eS 3 eStocked a0), (8, .p (.pointer none)), (32, eS 2 ePartCount a2), (33, vi (a2.length : Int)), (34, vi v9), (11, .own 0 0 v11.length)] [some (.row 2 (List.map ePartCount v11))]) ?_ ?_
      · rintro v11 h
        refine TriE.regJ ?_
        obtain ⟨c8, h⟩ := chk_some h
        refine jv (vi ((v9 + 1 : Nat) : Int)) (cy (I0 62 (.bin .add false (.t 34) (.c (.p (.int .i64 1)))))) (r_addn (i := v9) (j := 1) rfl rfl c8) rfl ?_
        refine jq 1 [(0, eS 3 eStocked a0), (8, .p (.pointer none)), (32, eS 2 ePartCount a2), (33, vi (a2.length : Int)), (11, .own 0 0 v11.length), (34, vi ((v9 + 1 : Nat) : Int))] [some (.row 2 (List.map ePartCount v11))] ?_
        exact Vs.intro sy ⟨(v11, v9 + 1), rfl, h⟩
      intro k2 h
      refine TriE.block ?_
      refine sj ?_
      refine jv (.fptr 2 (List.map ePartCount a2) v9 0) (cy (I0 36 (.iaddr 2 (.t 32) (.t 34)))) (ok_iaddr_m (j := v9) rfl rfl rfl c4) rfl ?_
      refine jv (.agg [vt ((ix a2 v9).Part), vi ((ix a2 v9).Count)]) (cy (I0 37 (.load true 2 (.t 36)))) (ok_load_fm (v := .agg [vt ((ix a2 v9).Part), vi ((ix a2 v9).Count)]) rfl c4 rfl) rfl ?_
      refine jq 2 [(0, eS 3 eStocked a0), (8, .p (.pointer none)), (11, .own 0 0 v8.length), (32, eS 2 ePartCount a2), (33, vi (a2.length : Int)), (34, vi v9), (13, .ptr 1 0 0)] [some (.row 2 (List.map ePartCount v8)), some (.row 2 [.agg [vt ((ix a2 v9).Part), vi ((ix a2 v9).Count)]])] ?_
      refine TriE.seq ?_
      refine sj ?_
      refine rn 3 [(0, eS 3 eStocked a0), (8, .p (.pointer none)), (11, .own 0 0 v8.length), (32, eS 2 ePartCount a2), (33, vi (a2.length : Int)), (34, vi v9), (13, .ptr 1 0 0), (38, eS 3 eStocked a0), (40, vt ((ix a2 v9).Part))] [some (.row 2 (List.map ePartCount v8)), some (.row 2 [.agg [vt ((ix a2 v9).Part), vi ((ix a2 v9).Count)]])] ?_
      obtain ⟨y10, hy10, h⟩ := bind_some h
      refine RegJ.op (Op1.call (y' := vi y10) (obx := []) (oby := []) (ob2 := [some (.row 2 (List.map ePartCount v8)), some (.row 2 [.agg [vt ((ix a2 v9).Part), vi ((ix a2 v9).Count)]])]) _ _ (cy (I0 41 (.call 90 [(.t 38), (.t 40)]))) rfl (restore_stocked_ok n a0 ((ix a2 v9).Part) y10 hy10) [] (by kernel_rfl) (.cons rfl (.cons rfl (.cons rfl .nil))) (by kernel_rfl) (by kernel_rfl) ObsRen.nil (by kernel_rfl) ObsRen.nil (by kernel_rfl)) ?_
      refine jq 1 [(0, eS 3 eStocked a0), (8, .p (.pointer none)), (11, .own 0 0 v8.length), (32, eS 2 ePartCount a2), (33, vi (a2.length : Int)), (34, vi v9), (13, .ptr 1 0 0), (14, vi y10)] [some (.row 2 (List.map ePartCount v8)), some (.row 2 [.agg [vt ((ix a2 v9).Part), vi ((ix a2 v9).Count)]])] ?_
      refine sr [(0, eS 3 eStocked a0), (8, .p (.pointer none)), (11, .own 0 0 v8.length), (32, eS 2 ePartCount a2), (33, vi (a2.length : Int)), (34, vi v9), (13, .ptr 1 0 0), (14, vi y10), (43, vb (decide ((0 : Int) ≤ y10)))] [some (.row 2 (List.map ePartCount v8)), some (.row 2 [.agg [vt ((ix a2 v9).Part), vi ((ix a2 v9).Count)]])] ?_
      refine TriE.cond (b := decide ((0 : Int) ≤ y10)) rfl (fun c5 => ?_) (fun c5 => ?_)
      · have h := cond_t h c5
        refine TriE.sees (Sees.less (fr' := [(0, eS 3 eStocked a0), (8, .p (.pointer none)), (11, .own 0 0 v8.length), (32, eS 2 ePartCount a2), (33, vi (a2.length : Int)), (34, vi v9), (13, .ptr 1 0 0), (14, vi y10)]) (.cons rfl (.cons rfl (.cons rfl (.cons rfl (.cons rfl (.cons rfl (.cons rfl (.cons rfl .nil))))))))) ?_
        refine TriE.draw (by kernel_rfl) ?_
        refine RegD.run 3 [(46, .p (.pointer none)), (45, vi ((ix a2 v9).Count)), (44, .ptr 1 0 1), (0, eS 3 eStocked a0), (8, .p (.pointer none)), (11, .own 0 0 v8.length), (32, eS 2 ePartCount a2), (33, vi (a2.length : Int)), (34, vi v9), (13, .ptr 1 0 0), (14, vi y10)] [some (.row 2 (List.map ePartCount v8)), some (.row 2 [.agg [vt ((ix a2 v9).Part), vi ((ix a2 v9).Count)]]), none, none, none] (by kernel_rfl) ?_
        cases h
      have h := cond_f h c5
      refine TriE.skip ?_
      refine sr [(0, eS 3 eStocked a0), (8, .p (.pointer none)), (11, .own 0 0 v8.length), (32, eS 2 ePartCount a2), (33, vi (a2.length : Int)), (34, vi v9), (13, .ptr 1 0 0), (57, vb (decide ((0 : Int) < ((ix a2 v9).Count))))] [some (.row 2 (List.map ePartCount v8)), some (.row 2 [.agg [vt ((ix a2 v9).Part), vi ((ix a2 v9).Count)]])] ?_
      refine TriE.cond (b := decide ((0 : Int) < ((ix a2 v9).Count))) rfl (fun c6 => ?_) (fun c6 => ?_)
      · have h := cond_t h c6
        refine TriE.regJ ?_
        refine rn 3 [(0, eS 3 eStocked a0), (8, .p (.pointer none)), (32, eS 2 ePartCount a2), (33, vi (a2.length : Int)), (34, vi v9), (58, .own 0 0 v8.length), (60, .own 2 0 1)] [some (.row 2 (List.map ePartCount v8)), some (.row 2 [.agg [vt ((ix a2 v9).Part), vi ((ix a2 v9).Count)]]), some (.row 2 [.agg [vt ((ix a2 v9).Part), vi ((ix a2 v9).Count)]])] ?_
        obtain ⟨c7, h⟩ := chk_some h
        refine je (.own 3 0 ((v8 ++ ([(ix a2 v9)] : List PartCount)).length)) [none, some (.row 2 [.agg [vt ((ix a2 v9).Part), vi ((ix a2 v9).Count)]]), some (.row 2 [.agg [vt ((ix a2 v9).Part), vi ((ix a2 v9).Count)]]), some (.row 2 (List.map ePartCount (v8 ++ ([(ix a2 v9)] : List PartCount))))] (cy (I0 61 (.app 2 24 (.t 58) (.t 60)))) (ok_app_own (l := v8) (l2 := ([(ix a2 v9)] : List PartCount)) (e := ePartCount) (u := .own 2 0 1) rfl rfl rfl rfl rfl c7) rfl rfl rfl ?_
        refine jq 1 [(0, eS 3 eStocked a0), (8, .p (.pointer none)), (32, eS 2 ePartCount a2), (33, vi (a2.length : Int)), (34, vi v9), (11, .own 3 0 ((v8 ++ ([(ix a2 v9)] : List PartCount)).length))] [none, some (.row 2 [.agg [vt ((ix a2 v9).Part), vi ((ix a2 v9).Count)]]), some (.row 2 [.agg [vt ((ix a2 v9).Part), vi ((ix a2 v9).Count)]]), some (.row 2 (List.map ePartCount (v8 ++ ([(ix a2 v9)] : List PartCount))))] ?_
        exact Vs.intro (sc [3] (by decide) (by kernel_rfl) (obRen_row ePartCount_frz rfl .nil) rfl rfl) ⟨(v8 ++ ([(ix a2 v9)] : List PartCount)), rfl, h⟩
      have h := cond_f h c6
      refine TriE.skip ?_
      exact Vs.intro (sc [0] (by decide) (by kernel_rfl) (obRen_row ePartCount_frz rfl .nil) rfl rfl) ⟨v8, rfl, h⟩
    have h := cond_f h c4
    refine TriE.exit ?_
    exact Vs.intro sy ⟨v8, rfl, h⟩
  · rintro v13 h
    refine TriE.seq ?_
    refine sr [(0, eS 3 eStocked a0), (2, eS 2 ePartCount a2), (8, .ptr 0 0 0), (9, vi 0), (22, vb false)] [some (.row 2 [.agg [eS 3 eStocked a0, .own 1 0 v13.length]]), some (.row 1 (List.map vi v13))] ?_
    refine TriE.cond (b := false) rfl (fun c9 => ?_) (fun c9 => ?_)
    · cases c9
    refine TriE.skip ?_
    refine TriE.seq ?_
    refine sj ?_
    refine rn 1 [(0, eS 3 eStocked a0), (2, eS 2 ePartCount a2), (8, .ptr 0 0 0), (24, eS 2 ePartCount a2)] [some (.row 2 [.agg [eS 3 eStocked a0, .own 1 0 v13.length]]), some (.row 1 (List.map vi v13))] ?_
    refine jv (vi (a2.length : Int)) (cy (I0 25 (.len 0 (.t 24)))) (ok_len_m rfl) rfl ?_
    refine jv (vb (decide (60 < a2.length))) (cy (I0 26 (.bin .gtr false (.t 25) (.c (.p (.int .i64 60)))))) (n_gtr (i := a2.length) (j := 60) rfl rfl) rfl ?_
    refine jp [(0, eS 3 eStocked a0), (2, eS 2 ePartCount a2), (8, .ptr 0 0 0), (26, vb (decide (60 < a2.length)))] ?_
    refine TriE.cond (b := decide (60 < a2.length)) rfl (fun c10 => ?_) (fun c10 => ?_)
    · have h := cond_t h c10
      refine sr [(6, .emp), (7, vi 8)] [some (.row 2 [.agg [eS 3 eStocked a0, .own 1 0 v13.length]]), some (.row 1 (List.map vi v13))] ?_
      refine TriE.ret ?_
      have h := Option.some.inj h
      subst h
      exact DoneS.ret (S' := ⟨[(6, eS 2 ePartCount ([] : List PartCount)), (7, vi 8)], []⟩) (Sees.trans (Sees.vco (fr' := [(6, eS 2 ePartCount ([] : List PartCount)), (7, vi 8)]) (.cons .sl (.cons .same .nil))) (sc [] (by decide) (by kernel_rfl) ObRen.nil rfl rfl)) rfl rfl
    have h := cond_f h c10
    refine TriE.skip ?_
    refine TriE.seq ?_
    refine sj ?_
    refine rn 1 [(0, eS 3 eStocked a0), (2, eS 2 ePartCount a2), (8, .ptr 0 0 0), (27, eS 2 ePartCount a2)] [some (.row 2 [.agg [eS 3 eStocked a0, .own 1 0 v13.length]]), some (.row 1 (List.map vi v13))] ?_
    obtain ⟨y14, hy14, h⟩ := bind_some h
    refine RegJ.op (Op1.call (y' := vi y14) (obx := []) (oby := []) (ob2 := [some (.row 2 [.agg [eS 3 eStocked a0, .own 1 0 v13.length]]), some (.row 1 (List.map vi v13))]) _ _ (cy (I0 28 (.call 108 [(.t 27), (.c (.p (.int .i64 10000)))]))) rfl (restore_checkCounts_ok n a2 10000 y14 hy14) [] (by kernel_rfl) (.cons rfl (.cons rfl (.cons rfl .nil))) (by kernel_rfl) (by kernel_rfl) ObsRen.nil (by kernel_rfl) ObsRen.nil (by kernel_rfl)) ?_
    refine jq 1 [(0, eS 3 eStocked a0), (2, eS 2 ePartCount a2), (8, .ptr 0 0 0), (10, vi y14)] [some (.row 2 [.agg [eS 3 eStocked a0, .own 1 0 v13.length]]), some (.row 1 (List.map vi v13))] ?_
    refine sr [(0, eS 3 eStocked a0), (2, eS 2 ePartCount a2), (8, .ptr 0 0 0), (10, vi y14), (30, vb (y14 != (0 : Int)))] [some (.row 2 [.agg [eS 3 eStocked a0, .own 1 0 v13.length]]), some (.row 1 (List.map vi v13))] ?_
    refine TriE.cond (b := (y14 != (0 : Int))) rfl (fun c11 => ?_) (fun c11 => ?_)
    · have h := cond_t h c11
      refine sr [(6, .emp), (7, vi y14)] [some (.row 2 [.agg [eS 3 eStocked a0, .own 1 0 v13.length]]), some (.row 1 (List.map vi v13))] ?_
      refine TriE.ret ?_
      have h := Option.some.inj h
      subst h
      exact DoneS.ret (S' := ⟨[(6, eS 2 ePartCount ([] : List PartCount)), (7, vi y14)], []⟩) (Sees.trans (Sees.vco (fr' := [(6, eS 2 ePartCount ([] : List PartCount)), (7, vi y14)]) (.cons .sl (.cons .same .nil))) (sc [] (by decide) (by kernel_rfl) ObRen.nil rfl rfl)) rfl rfl
    have h := cond_f h c11
    refine TriE.skip ?_
    refine sr [(0, eS 3 eStocked a0), (2, eS 2 ePartCount a2), (8, .ptr 0 0 0), (11, .emp)] [some (.row 2 [.agg [eS 3 eStocked a0, .own 1 0 v13.length]]), some (.row 1 (List.map vi v13))] ?_
    refine TriE.seqK h (fun (v23 : (List PartCount)) => St.mk [(11, .own 0 0 v23.length)] [some (.row 2 (List.map ePartCount v23))]) ?_ ?_
    · rintro v23 h
      refine sr [(6, .own 0 0 v23.length), (7, vi 0)] [some (.row 2 (List.map ePartCount v23))] ?_
      refine TriE.ret ?_
      have h := Option.some.inj h
      subst h
      exact DoneS.ret (S' := ⟨[(6, eS 2 ePartCount v23), (7, vi 0)], []⟩) (Sees.trans (Sees.freeze 0 (fr' := [(6, eS 2 ePartCount v23), (7, vi 0)]) (ob' := [none]) rfl (frz_row ePartCount_frzE _) (.cons (frz_full rfl) (.cons (.refl _) .nil)) rfl) (sc [] (by decide) (by kernel_rfl) ObRen.nil rfl rfl)) rfl rfl
    intro k7 h
    refine sj ?_
    refine rn 1 [(0, eS 3 eStocked a0), (8, .ptr 0 0 0), (11, .emp), (32, eS 2 ePartCount a2)] [some (.row 2 [.agg [eS 3 eStocked a0, .own 1 0 v13.length]]), some (.row 1 (List.map vi v13))] ?_
    refine jv (vi (a2.length : Int)) (cy (I0 33 (.len 0 (.t 32)))) (ok_len_m rfl) rfl ?_
    refine jq 1 [(0, eS 3 eStocked a0), (8, .ptr 0 0 0), (11, .emp), (32, eS 2 ePartCount a2), (33, vi (a2.length : Int)), (34, vi 0)] [some (.row 2 [.agg [eS 3 eStocked a0, .own 1 0 v13.length]]), some (.row 1 (List.map vi v13))] ?_
    refine TriE.block ?_
    refine TriE.sees (S' := ⟨[(0, eS 3 eStocked a0), (8, .ptr 0 0 0), (11, .own 2 0 ([] : List PartCount).length), (32, eS 2 ePartCount a2), (33, vi (a2.length : Int)), (34, vi 0)], [some (.row 2 [.agg [eS 3 eStocked a0, .own 1 0 v13.length]]), some (.row 1 (List.map vi v13)), some (.row 2 (List.map ePartCount ([] : List PartCount)))]⟩) (Sees.trans (Sees.co (fr' := [(0, eS 3 eStocked a0), (8, .ptr 0 0 0), (11, .own 2 0 0), (32, eS 2 ePartCount a2), (33, vi (a2.length : Int)), (34, vi 0)]) (ob' := [some (.row 2 [.agg [eS 3 eStocked a0, .own 1 0 v13.length]]), some (.row 1 (List.map vi v13))]) (.cons .same (.cons .same (.cons .own (.cons .same (.cons .same (.cons .same .nil)))))) (.same (.same .nil)) 2) sy) ?_
    refine TriE.loopN h (fun (t : (List PartCount) × Nat) => match t with | (v18, v19) => St.mk [(0, eS 3 eStocked a0), (8, .ptr 0 0 0), (11, .own 2 0 v18.length), (32, eS 2 ePartCount a2), (33, vi (a2.length : Int)), (34, vi v19)] [some (.row 2 [.agg [eS 3 eStocked a0, .own 1 0 v13.length]]), some (.row 1 (List.map vi v13)), some (.row 2 (List.map ePartCount v18))]) rfl ?_
    clear h
    rintro back ⟨v18, v19⟩ h
    dsimp only [restore_MissingParts_L2] at h
    refine sj ?_
    refine jv (vb (decide (v19 < a2.length))) (cy (I0 35 (.bin .lss false (.t 34) (.t 33)))) (n_lss (i := v19) (j := a2.length) rfl rfl) rfl ?_
    refine jp [(0, eS 3 eStocked a0), (8, .ptr 0 0 0), (11, .own 2 0 v18.length), (32, eS 2 ePartCount a2), (33, vi (a2.length : Int)), (34, vi v19), (35, vb (decide (v19 < a2.length)))] ?_
    refine TriE.seq ?_
    refine TriE.cond (b := decide (v19 < a2.length)) rfl (fun c12 => ?_) (fun c12 => ?_)
    · have h := cond_t h c12
      refine TriE.skip ?_
      refine TriE.seqK h (fun (v22 : (List PartCount)) => St.mk [(0, eS 3 eStocked a0), (8, .ptr 0 0 0), (32, eS 2 ePartCount a2), (33, vi (a2.length : Int)), (34, vi v19), (11, .own 2 0 v22.length)] [some (.row 2 [.agg [eS 3 eStocked a0, .own 1 0 v13.length]]), some (.row 1 (List.map vi v13)), some (.row 2 (List.map ePartCount v22))]) ?_ ?_
      · rintro v22 h
        refine TriE.regJ ?_
        obtain ⟨c19, h⟩ := chk_some h
        refine jv (vi ((v19 + 1 : Nat) : Int)) (cy (I0 62 (.bin .add false (.t 34) (.c (.p (.int .i64 1)))))) (r_addn (i := v19) (j := 1) rfl rfl c19) rfl ?_
        refine jq 1 [(0, eS 3 eStocked a0), (8, .ptr 0 0 0), (32, eS 2 ePartCount a2), (33, vi (a2.length : Int)), (11, .own 2 0 v22.length), (34, vi ((v19 + 1 : Nat) : Int))] [some (.row 2 [.agg [eS 3 eStocked a0, .own 1 0 v13.length]]), some (.row 1 (List.map vi v13)), some (.row 2 (List.map ePartCount v22))] ?_
        exact Vs.intro sy ⟨(v22, v19 + 1), rfl, h⟩
      intro k6 h
      refine TriE.block ?_
      refine sj ?_
      refine jv (.fptr 2 (List.map ePartCount a2) v19 0) (cy (I0 36 (.iaddr 2 (.t 32) (.t 34)))) (ok_iaddr_m (j := v19) rfl rfl rfl c12) rfl ?_
      refine jv (.agg [vt ((ix a2 v19).Part), vi ((ix a2 v19).Count)]) (cy (I0 37 (.load true 2 (.t 36)))) (ok_load_fm (v := .agg [vt ((ix a2 v19).Part), vi ((ix a2 v19).Count)]) rfl c12 rfl) rfl ?_
      refine jq 2 [(0, eS 3 eStocked a0), (8, .ptr 0 0 0), (11, .own 2 0 v18.length), (32, eS 2 ePartCount a2), (33, vi (a2.length : Int)), (34, vi v19), (13, .ptr 3 0 0)] [some (.row 2 [.agg [eS 3 eStocked a0, .own 1 0 v13.length]]), some (.row 1 (List.map vi v13)), some (.row 2 (List.map ePartCount v18)), some (.row 2 [.agg [vt ((ix a2 v19).Part), vi ((ix a2 v19).Count)]])] ?_
      refine TriE.seqK h (fun (v21 : Int) => St.mk [(0, eS 3 eStocked a0), (8, .ptr 0 0 0), (11, .own 2 0 v18.length), (32, eS 2 ePartCount a2), (33, vi (a2.length : Int)), (34, vi v19), (13, .ptr 3 0 0)] [some (.row 2 [.agg [eS 3 eStocked a0, .own 1 0 v13.length]]), some (.row 1 (List.map vi v13)), some (.row 2 (List.map ePartCount v18)), some (.row 2 [.agg [vt ((ix a2 v19).Part), vi v21]])]) ?_ ?_
      · rintro v21 h
        refine sr [(0, eS 3 eStocked a0), (8, .ptr 0 0 0), (11, .own 2 0 v18.length), (32, eS 2 ePartCount a2), (33, vi (a2.length : Int)), (34, vi v19), (13, .ptr 3 0 0), (57, vb (decide ((0 : Int) < v21)))] [some (.row 2 [.agg [eS 3 eStocked a0, .own 1 0 v13.length]]), some (.row 1 (List.map vi v13)), some (.row 2 (List.map ePartCount v18)), some (.row 2 [.agg [vt ((ix a2 v19).Part), vi v21]])] ?_
        refine TriE.cond (b := decide ((0 : Int) < v21)) rfl (fun c17 => ?_) (fun c17 => ?_)
        · have h := cond_t h c17
          refine TriE.regJ ?_
          refine rn 3 [(0, eS 3 eStocked a0), (8, .ptr 0 0 0), (32, eS 2 ePartCount a2), (33, vi (a2.length : Int)), (34, vi v19), (58, .own 2 0 v18.length), (60, .own 4 0 1)] [some (.row 2 [.agg [eS 3 eStocked a0, .own 1 0 v13.length]]), some (.row 1 (List.map vi v13)), some (.row 2 (List.map ePartCount v18)), some (.row 2 [.agg [vt ((ix a2 v19).Part), vi v21]]), some (.row 2 [.agg [vt ((ix a2 v19).Part), vi v21]])] ?_
          obtain ⟨c18, h⟩ := chk_some h
          refine je (.own 5 0 ((v18 ++ ([(PartCount.mk ((ix a2 v19).Part) v21)] : List PartCount)).length)) [some (.row 2 [.agg [eS 3 eStocked a0, .own 1 0 v13.length]]), some (.row 1 (List.map vi v13)), none, some (.row 2 [.agg [vt ((ix a2 v19).Part), vi v21]]), some (.row 2 [.agg [vt ((ix a2 v19).Part), vi v21]]), some (.row 2 (List.map ePartCount (v18 ++ ([(PartCount.mk ((ix a2 v19).Part) v21)] : List PartCount))))] (cy (I0 61 (.app 2 24 (.t 58) (.t 60)))) (ok_app_own (l := v18) (l2 := ([(PartCount.mk ((ix a2 v19).Part) v21)] : List PartCount)) (e := ePartCount) (u := .own 4 0 1) rfl rfl rfl rfl rfl c18) rfl rfl rfl ?_
          refine jq 1 [(0, eS 3 eStocked a0), (8, .ptr 0 0 0), (32, eS 2 ePartCount a2), (33, vi (a2.length : Int)), (34, vi v19), (11, .own 5 0 ((v18 ++ ([(PartCount.mk ((ix a2 v19).Part) v21)] : List PartCount)).length))] [some (.row 2 [.agg [eS 3 eStocked a0, .own 1 0 v13.length]]), some (.row 1 (List.map vi v13)), none, some (.row 2 [.agg [vt ((ix a2 v19).Part), vi v21]]), some (.row 2 [.agg [vt ((ix a2 v19).Part), vi v21]]), some (.row 2 (List.map ePartCount (v18 ++ ([(PartCount.mk ((ix a2 v19).Part) v21)] : List PartCount))))] ?_
          exact Vs.intro (sc [0, 1, 5] (by decide) (by kernel_rfl) (.cons rfl (obRen_row vi_frz rfl (obRen_row ePartCount_frz rfl .nil))) rfl rfl) ⟨(v18 ++ ([(PartCount.mk ((ix a2 v19).Part) v21)] : List PartCount)), rfl, h⟩
        have h := cond_f h c17
        refine TriE.skip ?_
        exact Vs.intro (sc [0, 1, 2] (by decide) (by kernel_rfl) (.cons rfl (obRen_row vi_frz rfl (obRen_row ePartCount_frz rfl .nil))) rfl rfl) ⟨v18, rfl, h⟩
      intro k5 h
      refine sj ?_
      refine rn 3 [(0, eS 3 eStocked a0), (8, .ptr 0 0 0), (11, .own 2 0 v18.length), (32, eS 2 ePartCount a2), (33, vi (a2.length : Int)), (34, vi v19), (13, .ptr 3 0 0), (38, eS 3 eStocked a0), (40, vt ((ix a2 v19).Part))] [some (.row 2 [.agg [eS 3 eStocked a0, .own 1 0 v13.length]]), some (.row 1 (List.map vi v13)), some (.row 2 (List.map ePartCount v18)), some (.row 2 [.agg [vt ((ix a2 v19).Part), vi ((ix a2 v19).Count)]])] ?_
      obtain ⟨y20, hy20, h⟩ := bind_some h
      refine RegJ.op (Op1.call (y' := vi y20) (obx := []) (oby := []) (ob2 := [some (.row 2 [.agg [eS 3 eStocked a0, .own 1 0 v13.length]]), some (.row 1 (List.map vi v13)), some (.row 2 (List.map ePartCount v18)), some (.row 2 [.agg [vt ((ix a2 v19).Part), vi ((ix a2 v19).Count)]])]) _ _ (cy (I0 41 (.call 90 [(.t 38), (.t 40)]))) rfl (restore_stocked_ok n a0 ((ix a2 v19).Part) y20 hy20) [] (by kernel_rfl) (.cons rfl (.cons rfl (.cons rfl .nil))) (by kernel_rfl) (by kernel_rfl) ObsRen.nil (by kernel_rfl) ObsRen.nil (by kernel_rfl)) ?_
      refine jq 1 [(0, eS 3 eStocked a0), (8, .ptr 0 0 0), (11, .own 2 0 v18.length), (32, eS 2 ePartCount a2), (33, vi (a2.length : Int)), (34, vi v19), (13, .ptr 3 0 0), (14, vi y20)] [some (.row 2 [.agg [eS 3 eStocked a0, .own 1 0 v13.length]]), some (.row 1 (List.map vi v13)), some (.row 2 (List.map ePartCount v18)), some (.row 2 [.agg [vt ((ix a2 v19).Part), vi ((ix a2 v19).Count)]])] ?_
      refine sr [(0, eS 3 eStocked a0), (8, .ptr 0 0 0), (11, .own 2 0 v18.length), (32, eS 2 ePartCount a2), (33, vi (a2.length : Int)), (34, vi v19), (13, .ptr 3 0 0), (14, vi y20), (43, vb (decide ((0 : Int) ≤ y20)))] [some (.row 2 [.agg [eS 3 eStocked a0, .own 1 0 v13.length]]), some (.row 1 (List.map vi v13)), some (.row 2 (List.map ePartCount v18)), some (.row 2 [.agg [vt ((ix a2 v19).Part), vi ((ix a2 v19).Count)]])] ?_
      refine TriE.cond (b := decide ((0 : Int) ≤ y20)) rfl (fun c13 => ?_) (fun c13 => ?_)
      · have h := cond_t h c13
        refine TriE.sees (Sees.less (fr' := [(0, eS 3 eStocked a0), (8, .ptr 0 0 0), (11, .own 2 0 v18.length), (32, eS 2 ePartCount a2), (33, vi (a2.length : Int)), (34, vi v19), (13, .ptr 3 0 0), (14, vi y20)]) (.cons rfl (.cons rfl (.cons rfl (.cons rfl (.cons rfl (.cons rfl (.cons rfl (.cons rfl .nil))))))))) ?_
        refine TriE.draw (by kernel_rfl) ?_
        refine RegD.run 7 [(50, vi y20), (49, .own 1 0 v13.length), (48, .ptr 0 0 1), (47, .ptr 0 0 0), (46, .ptr 0 0 0), (45, vi ((ix a2 v19).Count)), (44, .ptr 3 0 1), (0, eS 3 eStocked a0), (8, .ptr 0 0 0), (11, .own 2 0 v18.length), (32, eS 2 ePartCount a2), (33, vi (a2.length : Int)), (34, vi v19), (13, .ptr 3 0 0), (14, vi y20)] [some (.row 2 [.agg [eS 3 eStocked a0, .own 1 0 v13.length]]), some (.row 1 (List.map vi v13)), some (.row 2 (List.map ePartCount v18)), some (.row 2 [.agg [vt ((ix a2 v19).Part), vi ((ix a2 v19).Count)]]), none, none, none, none, none, none, none] (by kernel_rfl) ?_
        obtain ⟨c14, h⟩ := chk_some h
        refine dv (.ptr 1 y20.toNat 0) (cy (I0 51 (.iaddr 1 (.t 49) (.t 50)))) (ok_iaddr_o0 (j := y20.toNat) rfl rfl rfl (inB_to c14) (inB_lt c14)) rfl ?_
        obtain ⟨c15, h⟩ := chk_some h
        refine dv (vi (ix v13 y20.toNat)) (cy (I0 52 (.load false 1 (.t 51)))) (ok_load_pm (l := v13) (e := vi) (v := vi (ix v13 y20.toNat)) rfl rfl c15 rfl) rfl ?_
        obtain ⟨c16, h⟩ := chk_some h
        refine dv (vi (((ix a2 v19).Count) - (ix v13 y20.toNat))) (cy (I0 53 (.bin .sub false (.t 45) (.t 52)))) (r_sub rfl rfl c16) rfl ?_
        refine RegD.run 2 [(54, .ptr 3 0 1), (53, vi (((ix a2 v19).Count) - (ix v13 y20.toNat))), (52, vi (ix v13 y20.toNat)), (51, .ptr 1 y20.toNat 0), (50, vi y20), (49, .own 1 0 v13.length), (48, .ptr 0 0 1), (47, .ptr 0 0 0), (46, .ptr 0 0 0), (45, vi ((ix a2 v19).Count)), (44, .ptr 3 0 1), (0, eS 3 eStocked a0), (8, .ptr 0 0 0), (11, .own 2 0 v18.length), (32, eS 2 ePartCount a2), (33, vi (a2.length : Int)), (34, vi v19), (13, .ptr 3 0 0), (14, vi y20)] [some (.row 2 [.agg [eS 3 eStocked a0, .own 1 0 v13.length]]), some (.row 1 (List.map vi v13)), some (.row 2 (List.map ePartCount v18)), some (.row 2 [.agg [vt ((ix a2 v19).Part), vi (((ix a2 v19).Count) - (ix v13 y20.toNat))]]), none, none, none, none, none, none, none, none, none, none, none, none] (by kernel_rfl) ?_
        refine RegD.done rfl (by kernel_rfl) (S' := ⟨[(0, eS 3 eStocked a0), (8, .ptr 0 0 0), (11, .own 2 0 v18.length), (32, eS 2 ePartCount a2), (33, vi (a2.length : Int)), (34, vi v19), (13, .ptr 3 0 0)], [some (.row 2 [.agg [eS 3 eStocked a0, .own 1 0 v13.length]]), some (.row 1 (List.map vi v13)), some (.row 2 (List.map ePartCount v18)), some (.row 2 [.agg [vt ((ix a2 v19).Part), vi (((ix a2 v19).Count) - (ix v13 y20.toNat))]])]⟩) (sc [0, 1, 2, 3] (by decide) (by kernel_rfl) (.cons rfl (obRen_row vi_frz rfl (obRen_row ePartCount_frz rfl (.cons rfl .nil)))) rfl rfl) ?_
        exact Vs.intro Sees.refl ⟨(((ix a2 v19).Count) - (ix v13 y20.toNat)), rfl, h⟩
      have h := cond_f h c13
      refine TriE.skip ?_
      exact Vs.intro sy ⟨((ix a2 v19).Count), rfl, h⟩
    have h := cond_f h c12
    refine TriE.exit ?_
    exact Vs.intro (sc [2] (by decide) (by kernel_rfl) (obRen_row ePartCount_frz rfl .nil) rfl rfl) ⟨v18, rfl, h⟩
  intro k1 k4 h
  refine TriE.regJ ?_
  refine rn 2 [(0, eS 3 eStocked a0), (2, eS 2 ePartCount a2), (16, eS 3 eStocked a0), (17, eS 3 ePartPromise a1)] [] ?_
  obtain ⟨y1, hy1, h⟩ := bind_some h
  rcases y1 with y1 | y1
  · dsimp only at h
    refine RegJ.op (Op1.call (y' := .tup [.p (.pointer none), vi y1]) (obx := []) (oby := []) (ob2 := []) _ _ (cy (I0 18 (.call 107 [(.t 16), (.t 17)]))) rfl (restore_shelfOf_ok n a0 a1 (Sum.inl y1) hy1) [] (by kernel_rfl) (.cons rfl (.cons rfl (.cons rfl .nil))) (by kernel_rfl) (by kernel_rfl) ObsRen.nil (by kernel_rfl) ObsRen.nil (by kernel_rfl)) ?_
    refine jq 5 [(0, eS 3 eStocked a0), (2, eS 2 ePartCount a2), (8, .p (.pointer none)), (9, vi y1)] [] ?_
    exact Vs.intro Sees.refl (.inl ⟨y1, rfl, h⟩)
  dsimp only at h
  refine RegJ.op (Op1.call (y' := .tup [.ptr 0 0 0, vi 0]) (obx := []) (oby := [some (.row 2 [.agg [eS 3 eStocked a0, .own 1 0 y1.length]]), some (.row 1 (List.map vi y1))]) (ob2 := [some (.row 2 [.agg [eS 3 eStocked a0, .own 1 0 y1.length]]), some (.row 1 (List.map vi y1))]) _ _ (cy (I0 18 (.call 107 [(.t 16), (.t 17)]))) rfl (restore_shelfOf_ok n a0 a1 (Sum.inr y1) hy1) [] (by kernel_rfl) (.cons rfl (.cons rfl (.cons rfl .nil))) (by kernel_rfl) (by kernel_rfl) ObsRen.nil (by kernel_rfl) (.cons rfl (.same (row_ren vi_frz _ _ _) .nil)) (by kernel_rfl)) ?_
  refine jq 5 [(0, eS 3 eStocked a0), (2, eS 2 ePartCount a2), (8, .ptr 0 0 0), (9, vi 0)] [some (.row 2 [.agg [eS 3 eStocked a0, .own 1 0 y1.length]]), some (.row 1 (List.map vi y1))] ?_
  exact Vs.intro Sees.refl (.inr ⟨y1, rfl, h⟩)
theorem agraffebase_isLetter_ok (n : Nat) (a0 : Int) (r : Unit) (h : agraffebase_isLetter n a0 = some r) : FnL Tryz.prog 159 [vk .u8 a0] [] (vb (((decide ((97 : Int) ≤ a0)) && (decide (a0 ≤ (122 : Int)))) || ((decide ((65 : Int) ≤ a0)) && (decide (a0 ≤ (90 : Int)))))) [] := by
  dsimp only [agraffebase_isLetter] at h
  refine FnL.ofS (ts := [2]) Tryz.call159 Tryz.func159 rfl rfl (Nat.le_of_ble_eq_true rfl) (Nat.le_of_ble_eq_true rfl) (fun j h => absurd h (Nat.not_lt_zero j)) ?_
  refine sr [(0, vk .u8 a0)] [] ?_
  refine sj ?_
  refine rn 3 [(0, vk .u8 a0), (5, vb (decide ((97 : Int) ≤ a0)))] [] ?_
  refine RegJ.op (Op1.valk (v := vk .u8 a0) _ _ (cy (IG 6 (.mov (.t 0)) 5 true)) rfl (by kernel_rfl) (fun hg => (.cons rfl .nil))) ?_
  refine RegJ.op (Op1.valk (v := vb (decide (a0 ≤ (122 : Int)))) _ _ (cy (IG 7 (.bin .leq false (.t 6) (.c (.p (.int .u8 122)))) 5 true)) rfl (by kernel_rfl) (fun hg => (.cons hg (.cons rfl .nil)))) ?_
  refine RegJ.op (Op1.and (cy (I0 8 (.pick (.t 5) (.t 7) (.c (.p (.bool false)))))) rfl rfl (by first | exact hokA1 | exact hokA0 | simp)) ?_
  refine rn 1 [(0, vk .u8 a0), (9, vb ((decide ((97 : Int) ≤ a0)) && (decide (a0 ≤ (122 : Int)))))] [] ?_
  refine RegJ.op (Op1.valk (v := vk .u8 a0) _ _ (cy (IG 10 (.mov (.t 0)) 9 false)) rfl (by kernel_rfl) (fun hg => (.cons rfl .nil))) ?_
  refine RegJ.op (Op1.valk (v := vb (decide ((65 : Int) ≤ a0))) _ _ (cy (IG 11 (.bin .geq false (.t 10) (.c (.p (.int .u8 65)))) 9 false)) rfl (by kernel_rfl) (fun hg => (.cons hg (.cons rfl .nil)))) ?_
  refine RegJ.op (Op1.valk (v := vb (decide ((65 : Int) ≤ a0))) _ _ (cy (IG 12 (.mov (.t 11)) 9 false)) rfl (by kernel_rfl) (fun hg => (.cons hg .nil))) ?_
  refine RegJ.op (Op1.valk (v := vk .u8 a0) _ _ (cy (IG 13 (.mov (.t 0)) 12 true)) rfl (by kernel_rfl) (fun hg => (.cons rfl .nil))) ?_
  refine RegJ.op (Op1.valk (v := vb (decide (a0 ≤ (90 : Int)))) _ _ (cy (IG 14 (.bin .leq false (.t 13) (.c (.p (.int .u8 90)))) 12 true)) rfl (by kernel_rfl) (fun hg => (.cons hg (.cons rfl .nil)))) ?_
  refine RegJ.op (Op1.andg (g := !((decide ((97 : Int) ≤ a0)) && (decide (a0 ≤ (122 : Int))))) (cy (IG 15 (.pick (.t 12) (.t 14) (.c (.p (.bool false)))) 9 false)) rfl rfl rfl (fun hg => by first | exact hokA2 hg | exact hokA3 hg | exact hokA1 | exact hokA0 | (rw [hg]; simp) | simp_all)) ?_
  refine RegJ.op (Op1.or (cy (I0 16 (.pick (.t 9) (.c (.p (.bool true))) (.t 15)))) rfl rfl (by first | exact hokO1 | exact hokO0 | simp)) ?_
  refine jq 1 [(2, vb (((decide ((97 : Int) ≤ a0)) && (decide (a0 ≤ (122 : Int)))) || ((decide ((65 : Int) ≤ a0)) && (decide (a0 ≤ (90 : Int))))))] [] ?_
  refine TriE.ret ?_
  have h := Option.some.inj h
  subst h
  exact DoneS.ret (S' := ⟨[(2, vb (((decide ((97 : Int) ≤ a0)) && (decide (a0 ≤ (122 : Int)))) || ((decide ((65 : Int) ≤ a0)) && (decide (a0 ≤ (90 : Int))))))], []⟩) Sees.refl rfl rfl
theorem agraffebase_isDigit_ok (n : Nat) (a0 : Int) (r : Unit) (h : agraffebase_isDigit n a0 = some r) : FnL Tryz.prog 160 [vk .u8 a0] [] (vb ((decide ((48 : Int) ≤ a0)) && (decide (a0 ≤ (57 : Int))))) [] := by
  dsimp only [agraffebase_isDigit] at h
  refine FnL.ofS (ts := [2]) Tryz.call160 Tryz.func160 rfl rfl (Nat.le_of_ble_eq_true rfl) (Nat.le_of_ble_eq_true rfl) (fun j h => absurd h (Nat.not_lt_zero j)) ?_
  refine sr [(0, vk .u8 a0)] [] ?_
  refine sj ?_
  refine rn 3 [(0, vk .u8 a0), (5, vb (decide ((48 : Int) ≤ a0)))] [] ?_
  refine RegJ.op (Op1.valk (v := vk .u8 a0) _ _ (cy (IG 6 (.mov (.t 0)) 5 true)) rfl (by kernel_rfl) (fun hg => (.cons rfl .nil))) ?_
  refine RegJ.op (Op1.valk (v := vb (decide (a0 ≤ (57 : Int)))) _ _ (cy (IG 7 (.bin .leq false (.t 6) (.c (.p (.int .u8 57)))) 5 true)) rfl (by kernel_rfl) (fun hg => (.cons hg (.cons rfl .nil)))) ?_
  refine RegJ.op (Op1.and (cy (I0 8 (.pick (.t 5) (.t 7) (.c (.p (.bool false)))))) rfl rfl (by first | exact hokA1 | exact hokA0 | simp)) ?_
  refine jq 1 [(2, vb ((decide ((48 : Int) ≤ a0)) && (decide (a0 ≤ (57 : Int)))))] [] ?_
  refine TriE.ret ?_
  have h := Option.some.inj h
  subst h
  exact DoneS.ret (S' := ⟨[(2, vb ((decide ((48 : Int) ≤ a0)) && (decide (a0 ≤ (57 : Int)))))], []⟩) Sees.refl rfl rfl
theorem agraffebase_IsName_ok (n : Nat) (a0 : Str) (r : Bool) (h : agraffebase_IsName n a0 = some r) : FnL Tryz.prog 92 [vt a0] [] (vb r) [] := by
  dsimp only [agraffebase_IsName] at h
  refine FnL.ofS (ts := [2]) Tryz.call92 Tryz.func92 rfl rfl (Nat.le_of_ble_eq_true rfl) (Nat.le_of_ble_eq_true rfl) (fun j h => absurd h (Nat.not_lt_zero j)) ?_
  refine sr [(0, vt a0)] [] ?_
  refine TriE.seq ?_
  refine sj ?_
  refine rn 1 [(0, vt a0), (4, vt a0)] [] ?_
  refine jv (vi (a0.length : Int)) (cy (I0 5 (.len 1 (.t 4)))) (ok_len_t rfl) rfl ?_
  refine jv (vb (decide (a0.length = 0))) (cy (I0 6 (.bin .eql false (.t 5) (.c (.p (.int .i64 0)))))) (n_eql (i := a0.length) (j := 0) rfl rfl) rfl ?_
  refine rn 1 [(0, vt a0), (7, vb (decide (a0.length = 0)))] [] ?_
  refine RegJ.op (Op1.valk (v := vt a0) _ _ (cy (IG 8 (.mov (.t 0)) 7 false)) rfl (by kernel_rfl) (fun hg => (.cons rfl .nil))) ?_
  refine RegJ.op (Op1.valg (v := vi (a0.length : Int)) _ _ (cy (IG 9 (.len 1 (.t 8)) 7 false)) rfl (fun hg => (ok_len_t rfl)) (fun hg => (.cons hg .nil))) ?_
  refine RegJ.op (Op1.valg (v := vb (decide (12 < a0.length))) _ _ (cy (IG 10 (.bin .gtr false (.t 9) (.c (.p (.int .i64 12)))) 7 false)) rfl (fun hg => (n_gtr (i := a0.length) (j := 12) rfl rfl)) (fun hg => (.cons hg (.cons rfl .nil)))) ?_
  refine RegJ.op (Op1.or (cy (I0 11 (.pick (.t 7) (.c (.p (.bool true))) (.t 10)))) rfl rfl (by first | exact hokO1 | exact hokO0 | simp)) ?_
  refine rn 1 [(0, vt a0), (12, vb ((decide (a0.length = 0)) || (decide (12 < a0.length))))] [] ?_
  refine RegJ.op (Op1.valk (v := vt a0) _ _ (cy (IG 13 (.mov (.t 0)) 12 false)) rfl (by kernel_rfl) (fun hg => (.cons rfl .nil))) ?_
  obtain ⟨c1, h⟩ := chk_some h
  refine RegJ.op (Op1.valg (v := vk .u8 (((List.getD a0 0 0).toNat : Nat) : Int)) _ _ (cy (IG 14 (.sidx (.t 13) (.c (.p (.int .i64 0)))) 12 false)) rfl (fun hg => (ok_sidx_t (j := 0) rfl rfl rfl (gor c1 hg))) (fun hg => (.cons hg (.cons rfl .nil)))) ?_
  obtain ⟨y1, hy1, h⟩ := bind_some h
  refine RegJ.op (Op1.callg (g := !((decide (a0.length = 0)) || (decide (12 < a0.length)))) (y' := vb (((decide ((97 : Int) ≤ (((List.getD a0 0 0).toNat : Nat) : Int))) && (decide ((((List.getD a0 0 0).toNat : Nat) : Int) ≤ (122 : Int)))) || ((decide ((65 : Int) ≤ (((List.getD a0 0 0).toNat : Nat) : Int))) && (decide ((((List.getD a0 0 0).toNat : Nat) : Int) ≤ (90 : Int)))))) (obx := []) _ _ (cy (IG 15 (.call 159 [(.t 14)]) 12 false)) rfl (fun hg => agraffebase_isLetter_ok n (((List.getD a0 0 0).toNat : Nat) : Int) y1 (gcall_some hy1 hg)) [] (fun hg => by kernel_rfl) (fun hg => (.cons rfl (.cons hg .nil))) (by kernel_rfl) (by kernel_rfl) ObsRen.nil (by kernel_rfl) (by kernel_rfl)) ?_
  refine RegJ.op (Op1.valk (v := vb (!(((decide ((97 : Int) ≤ (((List.getD a0 0 0).toNat : Nat) : Int))) && (decide ((((List.getD a0 0 0).toNat : Nat) : Int) ≤ (122 : Int)))) || ((decide ((65 : Int) ≤ (((List.getD a0 0 0).toNat : Nat) : Int))) && (decide ((((List.getD a0 0 0).toNat : Nat) : Int) ≤ (90 : Int))))))) _ _ (cy (IG 16 (.un .not (.t 15)) 12 false)) rfl (by kernel_rfl) (fun hg => (.cons hg .nil))) ?_
  refine RegJ.op (Op1.or (cy (I0 17 (.pick (.t 12) (.c (.p (.bool true))) (.t 16)))) rfl rfl (by first | exact hokO1 | exact hokO0 | simp)) ?_
  refine jp [(0, vt a0), (17, vb (((decide (a0.length = 0)) || (decide (12 < a0.length))) || (!(((decide ((97 : Int) ≤ (((List.getD a0 0 0).toNat : Nat) : Int))) && (decide ((((List.getD a0 0 0).toNat : Nat) : Int) ≤ (122 : Int)))) || ((decide ((65 : Int) ≤ (((List.getD a0 0 0).toNat : Nat) : Int))) && (decide ((((List.getD a0 0 0).toNat : Nat) : Int) ≤ (90 : Int))))))))] ?_
  refine TriE.cond (b := ((decide (a0.length = 0)) || (decide (12 < a0.length))) || (!(((decide ((97 : Int) ≤ (((List.getD a0 0 0).toNat : Nat) : Int))) && (decide ((((List.getD a0 0 0).toNat : Nat) : Int) ≤ (122 : Int)))) || ((decide ((65 : Int) ≤ (((List.getD a0 0 0).toNat : Nat) : Int))) && (decide ((((List.getD a0 0 0).toNat : Nat) : Int) ≤ (90 : Int))))))) rfl (fun c2 => ?_) (fun c2 => ?_)
  · have h := cond_t h c2
    refine sr [(2, vb false)] [] ?_
    refine TriE.ret ?_
    have h := Option.some.inj h
    subst h
    exact DoneS.ret (S' := ⟨[(2, vb false)], []⟩) Sees.refl rfl rfl
  have h := cond_f h c2
  refine TriE.skip ?_
  refine TriE.seqK h (fun (_ : Unit) => St.mk [] []) ?_ ?_
  · rintro ⟨⟩ h
    refine sr [(2, vb true)] [] ?_
    refine TriE.ret ?_
    have h := Option.some.inj h
    subst h
    exact DoneS.ret (S' := ⟨[(2, vb true)], []⟩) Sees.refl rfl rfl
  intro k1 h
  refine sr [(0, vt a0), (3, vi 0)] [] ?_
  refine TriE.block ?_
  refine TriE.sees (S' := ⟨[(0, vt a0), (3, vi 0)], []⟩) sy ?_
  refine TriE.loopN h (fun (v4 : Nat) => St.mk [(0, vt a0), (3, vi v4)] []) rfl ?_
  clear h
  rintro back v4 h
  dsimp only [agraffebase_IsName_L1] at h
  refine TriE.seq ?_
  refine sj ?_
  refine rn 2 [(0, vt a0), (3, vi v4), (18, vi v4), (19, vt a0)] [] ?_
  refine jv (vi (a0.length : Int)) (cy (I0 20 (.len 1 (.t 19)))) (ok_len_t rfl) rfl ?_
  refine jv (vb (decide (v4 < a0.length))) (cy (I0 21 (.bin .lss false (.t 18) (.t 20)))) (n_lss (i := v4) (j := a0.length) rfl rfl) rfl ?_
  refine jp [(0, vt a0), (3, vi v4), (21, vb (decide (v4 < a0.length)))] ?_
  refine TriE.cond (b := decide (v4 < a0.length)) rfl (fun c3 => ?_) (fun c3 => ?_)
  · have h := cond_t h c3
    refine TriE.skip ?_
    refine TriE.seq ?_
    refine TriE.block ?_
    refine sj ?_
    refine rn 2 [(0, vt a0), (3, vi v4), (24, vt a0), (25, vi v4)] [] ?_
    refine jv (vk .u8 (((List.getD a0 v4 0).toNat : Nat) : Int)) (cy (I0 26 (.sidx (.t 24) (.t 25)))) (ok_sidx_t (j := v4) rfl rfl rfl c3) rfl ?_
    obtain ⟨y5, hy5, h⟩ := bind_some h
    refine RegJ.op (Op1.call (y' := vb (((decide ((97 : Int) ≤ (((List.getD a0 v4 0).toNat : Nat) : Int))) && (decide ((((List.getD a0 v4 0).toNat : Nat) : Int) ≤ (122 : Int)))) || ((decide ((65 : Int) ≤ (((List.getD a0 v4 0).toNat : Nat) : Int))) && (decide ((((List.getD a0 v4 0).toNat : Nat) : Int) ≤ (90 : Int)))))) (obx := []) (oby := []) (ob2 := []) _ _ (cy (I0 27 (.call 159 [(.t 26)]))) rfl (agraffebase_isLetter_ok n (((List.getD a0 v4 0).toNat : Nat) : Int) y5 hy5) [] (by kernel_rfl) (.cons rfl (.cons rfl .nil)) (by kernel_rfl) (by kernel_rfl) ObsRen.nil (by kernel_rfl) ObsRen.nil (by kernel_rfl)) ?_
    refine rn 2 [(0, vt a0), (3, vi v4), (29, vb (!(((decide ((97 : Int) ≤ (((List.getD a0 v4 0).toNat : Nat) : Int))) && (decide ((((List.getD a0 v4 0).toNat : Nat) : Int) ≤ (122 : Int)))) || ((decide ((65 : Int) ≤ (((List.getD a0 v4 0).toNat : Nat) : Int))) && (decide ((((List.getD a0 v4 0).toNat : Nat) : Int) ≤ (90 : Int)))))))] [] ?_
    refine RegJ.op (Op1.valk (v := vt a0) _ _ (cy (IG 30 (.mov (.t 0)) 29 true)) rfl (by kernel_rfl) (fun hg => (.cons rfl .nil))) ?_
    refine RegJ.op (Op1.valk (v := vi v4) _ _ (cy (IG 31 (.mov (.t 3)) 29 true)) rfl (by kernel_rfl) (fun hg => (.cons rfl .nil))) ?_
    refine RegJ.op (Op1.valg (v := vk .u8 (((List.getD a0 v4 0).toNat : Nat) : Int)) _ _ (cy (IG 32 (.sidx (.t 30) (.t 31)) 29 true)) rfl (fun hg => (ok_sidx_t (j := v4) rfl rfl rfl c3)) (fun hg => (.cons hg (.cons hg .nil)))) ?_
    obtain ⟨y6, hy6, h⟩ := bind_some h
    refine RegJ.op (Op1.callg (g := !(((decide ((97 : Int) ≤ (((List.getD a0 v4 0).toNat : Nat) : Int))) && (decide ((((List.getD a0 v4 0).toNat : Nat) : Int) ≤ (122 : Int)))) || ((decide ((65 : Int) ≤ (((List.getD a0 v4 0).toNat : Nat) : Int))) && (decide ((((List.getD a0 v4 0).toNat : Nat) : Int) ≤ (90 : Int)))))) (y' := vb ((decide ((48 : Int) ≤ (((List.getD a0 v4 0).toNat : Nat) : Int))) && (decide ((((List.getD a0 v4 0).toNat : Nat) : Int) ≤ (57 : Int))))) (obx := []) _ _ (cy (IG 33 (.call 160 [(.t 32)]) 29 true)) rfl (fun hg => agraffebase_isDigit_ok n (((List.getD a0 v4 0).toNat : Nat) : Int) y6 (gcall_some hy6 hg)) [] (fun hg => by kernel_rfl) (fun hg => (.cons rfl (.cons hg .nil))) (by kernel_rfl) (by kernel_rfl) ObsRen.nil (by kernel_rfl) (by kernel_rfl)) ?_
    refine RegJ.op (Op1.valk (v := vb (!((decide ((48 : Int) ≤ (((List.getD a0 v4 0).toNat : Nat) : Int))) && (decide ((((List.getD a0 v4 0).toNat : Nat) : Int) ≤ (57 : Int)))))) _ _ (cy (IG 34 (.un .not (.t 33)) 29 true)) rfl (by kernel_rfl) (fun hg => (.cons hg .nil))) ?_
    refine RegJ.op (Op1.and (cy (I0 35 (.pick (.t 29) (.t 34) (.c (.p (.bool false)))))) rfl rfl (by first | exact hokA1 | exact hokA0 | simp)) ?_
    refine rn 1 [(0, vt a0), (3, vi v4), (30, .cond (!(((decide ((97 : Int) ≤ (((List.getD a0 v4 0).toNat : Nat) : Int))) && (decide ((((List.getD a0 v4 0).toNat : Nat) : Int) ≤ (122 : Int)))) || ((decide ((65 : Int) ≤ (((List.getD a0 v4 0).toNat : Nat) : Int))) && (decide ((((List.getD a0 v4 0).toNat : Nat) : Int) ≤ (90 : Int)))))) (vt a0)), (31, .cond (!(((decide ((97 : Int) ≤ (((List.getD a0 v4 0).toNat : Nat) : Int))) && (decide ((((List.getD a0 v4 0).toNat : Nat) : Int) ≤ (122 : Int)))) || ((decide ((65 : Int) ≤ (((List.getD a0 v4 0).toNat : Nat) : Int))) && (decide ((((List.getD a0 v4 0).toNat : Nat) : Int) ≤ (90 : Int)))))) (vi v4)), (32, .cond (!(((decide ((97 : Int) ≤ (((List.getD a0 v4 0).toNat : Nat) : Int))) && (decide ((((List.getD a0 v4 0).toNat : Nat) : Int) ≤ (122 : Int)))) || ((decide ((65 : Int) ≤ (((List.getD a0 v4 0).toNat : Nat) : Int))) && (decide ((((List.getD a0 v4 0).toNat : Nat) : Int) ≤ (90 : Int)))))) (vk .u8 (((List.getD a0 v4 0).toNat : Nat) : Int))), (33, .cond (!(((decide ((97 : Int) ≤ (((List.getD a0 v4 0).toNat : Nat) : Int))) && (decide ((((List.getD a0 v4 0).toNat : Nat) : Int) ≤ (122 : Int)))) || ((decide ((65 : Int) ≤ (((List.getD a0 v4 0).toNat : Nat) : Int))) && (decide ((((List.getD a0 v4 0).toNat : Nat) : Int) ≤ (90 : Int)))))) (vb ((decide ((48 : Int) ≤ (((List.getD a0 v4 0).toNat : Nat) : Int))) && (decide ((((List.getD a0 v4 0).toNat : Nat) : Int) ≤ (57 : Int)))))), (34, .cond (!(((decide ((97 : Int) ≤ (((List.getD a0 v4 0).toNat : Nat) : Int))) && (decide ((((List.getD a0 v4 0).toNat : Nat) : Int) ≤ (122 : Int)))) || ((decide ((65 : Int) ≤ (((List.getD a0 v4 0).toNat : Nat) : Int))) && (decide ((((List.getD a0 v4 0).toNat : Nat) : Int) ≤ (90 : Int)))))) (vb (!((decide ((48 : Int) ≤ (((List.getD a0 v4 0).toNat : Nat) : Int))) && (decide ((((List.getD a0 v4 0).toNat : Nat) : Int) ≤ (57 : Int))))))), (36, vb ((!(((decide ((97 : Int) ≤ (((List.getD a0 v4 0).toNat : Nat) : Int))) && (decide ((((List.getD a0 v4 0).toNat : Nat) : Int) ≤ (122 : Int)))) || ((decide ((65 : Int) ≤ (((List.getD a0 v4 0).toNat : Nat) : Int))) && (decide ((((List.getD a0 v4 0).toNat : Nat) : Int) ≤ (90 : Int)))))) && (!((decide ((48 : Int) ≤ (((List.getD a0 v4 0).toNat : Nat) : Int))) && (decide ((((List.getD a0 v4 0).toNat : Nat) : Int) ≤ (57 : Int)))))))] [] ?_
    refine RegJ.op (Op1.valk (v := vt a0) _ _ (cy (IG 37 (.mov (.t 0)) 36 true)) rfl (by kernel_rfl) (fun hg => (.cons rfl .nil))) ?_
    refine RegJ.op (Op1.valk (v := vi v4) _ _ (cy (IG 38 (.mov (.t 3)) 36 true)) rfl (by kernel_rfl) (fun hg => (.cons rfl .nil))) ?_
    refine RegJ.op (Op1.valg (v := vk .u8 (((List.getD a0 v4 0).toNat : Nat) : Int)) _ _ (cy (IG 39 (.sidx (.t 37) (.t 38)) 36 true)) rfl (fun hg => (ok_sidx_t (j := v4) rfl rfl rfl c3)) (fun hg => (.cons hg (.cons hg .nil)))) ?_
    refine RegJ.op (Op1.valk (v := vb ((((List.getD a0 v4 0).toNat : Nat) : Int) != (45 : Int))) _ _ (cy (IG 40 (.bin .neq false (.t 39) (.c (.p (.int .u8 45)))) 36 true)) rfl (by kernel_rfl) (fun hg => (.cons hg (.cons rfl .nil)))) ?_
    refine RegJ.op (Op1.and (cy (I0 41 (.pick (.t 36) (.t 40) (.c (.p (.bool false)))))) rfl rfl (by first | exact hokA1 | exact hokA0 | simp)) ?_
    refine jp [(0, vt a0), (3, vi v4), (41, vb (((!(((decide ((97 : Int) ≤ (((List.getD a0 v4 0).toNat : Nat) : Int))) && (decide ((((List.getD a0 v4 0).toNat : Nat) : Int) ≤ (122 : Int)))) || ((decide ((65 : Int) ≤ (((List.getD a0 v4 0).toNat : Nat) : Int))) && (decide ((((List.getD a0 v4 0).toNat : Nat) : Int) ≤ (90 : Int)))))) && (!((decide ((48 : Int) ≤ (((List.getD a0 v4 0).toNat : Nat) : Int))) && (decide ((((List.getD a0 v4 0).toNat : Nat) : Int) ≤ (57 : Int)))))) && ((((List.getD a0 v4 0).toNat : Nat) : Int) != (45 : Int))))] ?_
    refine TriE.cond (b := ((!(((decide ((97 : Int) ≤ (((List.getD a0 v4 0).toNat : Nat) : Int))) && (decide ((((List.getD a0 v4 0).toNat : Nat) : Int) ≤ (122 : Int)))) || ((decide ((65 : Int) ≤ (((List.getD a0 v4 0).toNat : Nat) : Int))) && (decide ((((List.getD a0 v4 0).toNat : Nat) : Int) ≤ (90 : Int)))))) && (!((decide ((48 : Int) ≤ (((List.getD a0 v4 0).toNat : Nat) : Int))) && (decide ((((List.getD a0 v4 0).toNat : Nat) : Int) ≤ (57 : Int)))))) && ((((List.getD a0 v4 0).toNat : Nat) : Int) != (45 : Int))) rfl (fun c4 => ?_) (fun c4 => ?_)
    · have h := cond_t h c4
      refine sr [(2, vb false)] [] ?_
      refine TriE.ret ?_
      have h := Option.some.inj h
      subst h
      exact DoneS.ret (S' := ⟨[(2, vb false)], []⟩) Sees.refl rfl rfl
    have h := cond_f h c4
    refine TriE.skip ?_
    refine TriE.regJ ?_
    refine rn 1 [(0, vt a0), (22, vi v4)] [] ?_
    obtain ⟨c5, h⟩ := chk_some h
    refine jv (vi ((v4 + 1 : Nat) : Int)) (cy (I0 23 (.bin .add false (.t 22) (.c (.p (.int .i64 1)))))) (r_addn (i := v4) (j := 1) rfl rfl c5) rfl ?_
    refine jq 1 [(0, vt a0), (3, vi ((v4 + 1 : Nat) : Int))] [] ?_
    exact Vs.intro sy ⟨(v4 + 1), rfl, h⟩
  have h := cond_f h c3
  refine TriE.exit ?_
  exact Vs.intro sy ⟨(), rfl, h⟩
theorem agrafferef08_FindStock_ok (n : Nat) (a0 : List Stocked) (a1 : Str) (r : Int) (h : agrafferef08_FindStock n a0 a1 = some r) : FnL Tryz.prog 74 [eS 3 eStocked a0, vt a1] [] (vi r) [] := by
  dsimp only [agrafferef08_FindStock] at h
  refine FnL.ofS (ts := [4]) Tryz.call74 Tryz.func74 rfl rfl (Nat.le_of_ble_eq_true rfl) (Nat.le_of_ble_eq_true rfl) (fun j h => absurd h (Nat.not_lt_zero j)) ?_
  refine sr [(0, eS 3 eStocked a0), (1, vt a1)] [] ?_
  refine TriE.seqK h (fun (_ : Unit) => St.mk [] []) ?_ ?_
  · rintro ⟨⟩ h
    refine sr [(4, vi (-1))] [] ?_
    refine TriE.ret ?_
    have h := Option.some.inj h
    subst h
    exact DoneS.ret (S' := ⟨[(4, vi (-1))], []⟩) Sees.refl rfl rfl
  intro k1 h
  refine sr [(0, eS 3 eStocked a0), (1, vt a1), (5, vi 0)] [] ?_
  refine TriE.block ?_
  refine TriE.sees (S' := ⟨[(0, eS 3 eStocked a0), (1, vt a1), (5, vi 0)], []⟩) sy ?_
  refine TriE.loopN h (fun (v1 : Nat) => St.mk [(0, eS 3 eStocked a0), (1, vt a1), (5, vi v1)] []) rfl ?_
  clear h
  rintro back v1 h
  dsimp only [agrafferef08_FindStock_L1] at h
  refine TriE.seq ?_
  refine sj ?_
  refine rn 2 [(0, eS 3 eStocked a0), (1, vt a1), (5, vi v1), (6, vi v1), (7, eS 3 eStocked a0)] [] ?_
  refine jv (vi (a0.length : Int)) (cy (I0 8 (.len 0 (.t 7)))) (ok_len_m rfl) rfl ?_
  refine jv (vb (decide (v1 < a0.length))) (cy (I0 9 (.bin .lss false (.t 6) (.t 8)))) (n_lss (i := v1) (j := a0.length) rfl rfl) rfl ?_
  refine jp [(0, eS 3 eStocked a0), (1, vt a1), (5, vi v1), (9, vb (decide (v1 < a0.length)))] ?_
  refine TriE.cond (b := decide (v1 < a0.length)) rfl (fun c1 => ?_) (fun c1 => ?_)
  · have h := cond_t h c1
    refine TriE.skip ?_
    refine TriE.seq ?_
    refine TriE.block ?_
    refine sj ?_
    refine rn 2 [(0, eS 3 eStocked a0), (1, vt a1), (5, vi v1), (12, eS 3 eStocked a0), (13, vi v1)] [] ?_
    refine jv (.fptr 3 (List.map eStocked a0) v1 0) (cy (I0 14 (.iaddr 3 (.t 12) (.t 13)))) (ok_iaddr_m (j := v1) rfl rfl rfl c1) rfl ?_
    refine rn 1 [(0, eS 3 eStocked a0), (1, vt a1), (5, vi v1), (15, .fptr 3 (List.map eStocked a0) v1 0)] [] ?_
    refine jv (vt ((ix a0 v1).Part)) (cy (I0 16 (.load false 1 (.t 15)))) (ok_load_fm (v := vt ((ix a0 v1).Part)) rfl c1 rfl) rfl ?_
    refine jq 2 [(0, eS 3 eStocked a0), (1, vt a1), (5, vi v1), (18, vb (((ix a0 v1).Part) == a1))] [] ?_
    refine TriE.cond (b := (((ix a0 v1).Part) == a1)) rfl (fun c2 => ?_) (fun c2 => ?_)
    · have h := cond_t h c2
      refine sr [(4, vi v1)] [] ?_
      refine TriE.ret ?_
      have h := Option.some.inj h
      subst h
      exact DoneS.ret (S' := ⟨[(4, vi v1)], []⟩) Sees.refl rfl rfl
    have h := cond_f h c2
    refine TriE.skip ?_
    refine TriE.regJ ?_
    refine rn 1 [(0, eS 3 eStocked a0), (1, vt a1), (10, vi v1)] [] ?_
    obtain ⟨c3, h⟩ := chk_some h
    refine jv (vi ((v1 + 1 : Nat) : Int)) (cy (I0 11 (.bin .add false (.t 10) (.c (.p (.int .i64 1)))))) (r_addn (i := v1) (j := 1) rfl rfl c3) rfl ?_
    refine jq 1 [(0, eS 3 eStocked a0), (1, vt a1), (5, vi ((v1 + 1 : Nat) : Int))] [] ?_
    exact Vs.intro sy ⟨(v1 + 1), rfl, h⟩
  have h := cond_f h c1
  refine TriE.exit ?_
  exact Vs.intro sy ⟨(), rfl, h⟩
theorem agraffebase_Within_ok (n : Nat) (a0 : Int) (a1 : Int) (a2 : Int) (r : Unit) (h : agraffebase_Within n a0 a1 a2 = some r) : FnL Tryz.prog 93 [vi a0, vi a1, vi a2] [] (vb ((decide (a1 ≤ a0)) && (decide (a0 ≤ a2)))) [] := by
  dsimp only [agraffebase_Within] at h
  refine FnL.ofS (ts := [6]) Tryz.call93 Tryz.func93 rfl rfl (Nat.le_of_ble_eq_true rfl) (Nat.le_of_ble_eq_true rfl) (fun j h => absurd h (Nat.not_lt_zero j)) ?_
  refine sr [(0, vi a0), (1, vi a1), (2, vi a2)] [] ?_
  refine sj ?_
  refine rn 4 [(0, vi a0), (2, vi a2), (10, vb (decide (a1 ≤ a0)))] [] ?_
  refine RegJ.op (Op1.valk (v := vi a0) _ _ (cy (IG 11 (.mov (.t 0)) 10 true)) rfl (by kernel_rfl) (fun hg => (.cons rfl .nil))) ?_
  refine RegJ.op (Op1.valk (v := vi a2) _ _ (cy (IG 12 (.mov (.t 2)) 10 true)) rfl (by kernel_rfl) (fun hg => (.cons rfl .nil))) ?_
  refine RegJ.op (Op1.valk (v := vb (decide (a0 ≤ a2))) _ _ (cy (IG 13 (.bin .leq false (.t 11) (.t 12)) 10 true)) rfl (by kernel_rfl) (fun hg => (.cons hg (.cons hg .nil)))) ?_
  refine RegJ.op (Op1.and (cy (I0 14 (.pick (.t 10) (.t 13) (.c (.p (.bool false)))))) rfl rfl (by first | exact hokA1 | exact hokA0 | simp)) ?_
  refine jq 1 [(6, vb ((decide (a1 ≤ a0)) && (decide (a0 ≤ a2))))] [] ?_
  refine TriE.ret ?_
  have h := Option.some.inj h
  subst h
  exact DoneS.ret (S' := ⟨[(6, vb ((decide (a1 ≤ a0)) && (decide (a0 ≤ a2))))], []⟩) Sees.refl rfl rfl
theorem agrafferef08_CheckStock_ok (n : Nat) (a0 : List Stocked) (r : Int) (h : agrafferef08_CheckStock n a0 = some r) : FnL Tryz.prog 24 [eS 3 eStocked a0] [] (vi r) [] := by
  dsimp only [agrafferef08_CheckStock] at h
  refine FnL.ofS (ts := [2]) Tryz.call24 Tryz.func24 rfl rfl (Nat.le_of_ble_eq_true rfl) (Nat.le_of_ble_eq_true rfl) (fun j h => absurd h (Nat.not_lt_zero j)) ?_
  refine sr [(0, eS 3 eStocked a0)] [] ?_
  refine TriE.seq ?_
  refine sj ?_
  refine rn 1 [(0, eS 3 eStocked a0), (4, eS 3 eStocked a0)] [] ?_
  refine jv (vi (a0.length : Int)) (cy (I0 5 (.len 0 (.t 4)))) (ok_len_m rfl) rfl ?_
  refine jv (vb (decide (60 < a0.length))) (cy (I0 6 (.bin .gtr false (.t 5) (.c (.p (.int .i64 60)))))) (n_gtr (i := a0.length) (j := 60) rfl rfl) rfl ?_
  refine jp [(0, eS 3 eStocked a0), (6, vb (decide (60 < a0.length)))] ?_
  refine TriE.cond (b := decide (60 < a0.length)) rfl (fun c1 => ?_) (fun c1 => ?_)
  · have h := cond_t h c1
    refine sr [(2, vi 8)] [] ?_
    refine TriE.ret ?_
    have h := Option.some.inj h
    subst h
    exact DoneS.ret (S' := ⟨[(2, vi 8)], []⟩) Sees.refl rfl rfl
  have h := cond_f h c1
  refine TriE.skip ?_
  refine TriE.seqK h (fun (_ : Unit) => St.mk [] []) ?_ ?_
  · rintro ⟨⟩ h
    refine sr [(2, vi 0)] [] ?_
    refine TriE.ret ?_
    have h := Option.some.inj h
    subst h
    exact DoneS.ret (S' := ⟨[(2, vi 0)], []⟩) Sees.refl rfl rfl
  intro k1 h
  refine sr [(0, eS 3 eStocked a0), (3, vi 0)] [] ?_
  refine TriE.block ?_
  refine TriE.sees (S' := ⟨[(0, eS 3 eStocked a0), (3, vi 0)], []⟩) sy ?_
  refine TriE.loopN h (fun (v5 : Nat) => St.mk [(0, eS 3 eStocked a0), (3, vi v5)] []) rfl ?_
  clear h
  rintro back v5 h
  dsimp only [agrafferef08_CheckStock_L1] at h
  refine TriE.seq ?_
  refine sj ?_
  refine rn 2 [(0, eS 3 eStocked a0), (3, vi v5), (7, vi v5), (8, eS 3 eStocked a0)] [] ?_
  refine jv (vi (a0.length : Int)) (cy (I0 9 (.len 0 (.t 8)))) (ok_len_m rfl) rfl ?_
  refine jv (vb (decide (v5 < a0.length))) (cy (I0 10 (.bin .lss false (.t 7) (.t 9)))) (n_lss (i := v5) (j := a0.length) rfl rfl) rfl ?_
  refine jp [(0, eS 3 eStocked a0), (3, vi v5), (10, vb (decide (v5 < a0.length)))] ?_
  refine TriE.cond (b := decide (v5 < a0.length)) rfl (fun c2 => ?_) (fun c2 => ?_)
  · have h := cond_t h c2
    refine TriE.skip ?_
    refine TriE.seq ?_
    refine TriE.block ?_
    refine TriE.seq ?_
    refine sj ?_
    refine rn 2 [(0, eS 3 eStocked a0), (3, vi v5), (13, eS 3 eStocked a0), (14, vi v5)] [] ?_
    refine jv (.fptr 3 (List.map eStocked a0) v5 0) (cy (I0 15 (.iaddr 3 (.t 13) (.t 14)))) (ok_iaddr_m (j := v5) rfl rfl rfl c2) rfl ?_
    refine rn 1 [(0, eS 3 eStocked a0), (3, vi v5), (16, .fptr 3 (List.map eStocked a0) v5 0)] [] ?_
    refine jv (vt ((ix a0 v5).Part)) (cy (I0 17 (.load false 1 (.t 16)))) (ok_load_fm (v := vt ((ix a0 v5).Part)) rfl c2 rfl) rfl ?_
    obtain ⟨y6, hy6, h⟩ := bind_some h
    refine RegJ.op (Op1.call (y' := vb y6) (obx := []) (oby := []) (ob2 := []) _ _ (cy (I0 18 (.call 92 [(.t 17)]))) rfl (agraffebase_IsName_ok n ((ix a0 v5).Part) y6 hy6) [] (by kernel_rfl) (.cons rfl (.cons rfl .nil)) (by kernel_rfl) (by kernel_rfl) ObsRen.nil (by kernel_rfl) ObsRen.nil (by kernel_rfl)) ?_
    refine jq 1 [(0, eS 3 eStocked a0), (3, vi v5), (19, vb (!y6))] [] ?_
    refine TriE.cond (b := !y6) rfl (fun c3 => ?_) (fun c3 => ?_)
    · have h := cond_t h c3
      refine sr [(2, vi 4)] [] ?_
      refine TriE.ret ?_
      have h := Option.some.inj h
      subst h
      exact DoneS.ret (S' := ⟨[(2, vi 4)], []⟩) Sees.refl rfl rfl
    have h := cond_f h c3
    refine TriE.skip ?_
    refine TriE.seq ?_
    refine TriE.seq ?_
    refine TriE.sees (Sees.less (fr' := [(0, eS 3 eStocked a0), (3, vi v5)]) (.cons rfl (.cons rfl .nil))) ?_
    refine TriE.draw (by kernel_rfl) ?_
    refine RegD.run 2 [(21, vi v5), (20, eS 3 eStocked a0), (0, eS 3 eStocked a0), (3, vi v5)] [none, none] (by kernel_rfl) ?_
    obtain ⟨c4, h⟩ := chk_some h
    refine dv (eS 3 eStocked (List.take v5 a0)) (cy (I0 22 (.slc 3 (.t 20) none (some (.t 21)) none))) (ok_slc_hi (j := v5) rfl rfl rfl c4) rfl ?_
    refine RegD.run 2 [(24, vi v5), (23, eS 3 eStocked a0), (22, eS 3 eStocked (List.take v5 a0)), (21, vi v5), (20, eS 3 eStocked a0), (0, eS 3 eStocked a0), (3, vi v5)] [none, none, none, none, none] (by kernel_rfl) ?_
    refine dv (.fptr 3 (List.map eStocked a0) v5 0) (cy (I0 25 (.iaddr 3 (.t 23) (.t 24)))) (ok_iaddr_m (j := v5) rfl rfl rfl c2) rfl ?_
    refine RegD.run 1 [(26, .fptr 3 (List.map eStocked a0) v5 0), (25, .fptr 3 (List.map eStocked a0) v5 0), (24, vi v5), (23, eS 3 eStocked a0), (22, eS 3 eStocked (List.take v5 a0)), (21, vi v5), (20, eS 3 eStocked a0), (0, eS 3 eStocked a0), (3, vi v5)] [none, none, none, none, none, none, none] (by kernel_rfl) ?_
    refine dv (vt ((ix a0 v5).Part)) (cy (I0 27 (.load false 1 (.t 26)))) (ok_load_fm (v := vt ((ix a0 v5).Part)) rfl c2 rfl) rfl ?_
    obtain ⟨y7, hy7, h⟩ := bind_some h
    refine RegD.op (OpD.call (y' := vi y7) (obx := []) (oby := []) (ob2 := [none, none, none, none, none, none, none, none, none]) (tch := []) 0 _ _ (cy (I0 28 (.call 74 [(.t 22), (.t 27)]))) (agrafferef08_FindStock_ok n (List.take v5 a0) ((ix a0 v5).Part) y7 hy7) [] (by kernel_rfl) (.cons rfl (.cons rfl (.cons rfl .nil))) (by kernel_rfl) (by kernel_rfl) ObsRen.nil (by kernel_rfl) ObsRen.nil (by kernel_rfl) rfl (.inr ⟨rfl, rfl⟩)) ?_
    refine RegD.run 1 [(29, vb (decide ((0 : Int) ≤ y7))), (28, vi y7), (27, vt ((ix a0 v5).Part)), (26, .fptr 3 (List.map eStocked a0) v5 0), (25, .fptr 3 (List.map eStocked a0) v5 0), (24, vi v5), (23, eS 3 eStocked a0), (22, eS 3 eStocked (List.take v5 a0)), (21, vi v5), (20, eS 3 eStocked a0), (0, eS 3 eStocked a0), (3, vi v5)] [none, none, none, none, none, none, none, none, none, none] (by kernel_rfl) ?_
    refine RegD.done rfl (by kernel_rfl) (S' := ⟨[(0, eS 3 eStocked a0), (3, vi v5), (29, vb (decide ((0 : Int) ≤ y7)))], []⟩) (sc [] (by decide) (by kernel_rfl) ObRen.nil rfl rfl) ?_
    refine TriE.cond (b := decide ((0 : Int) ≤ y7)) rfl (fun c5 => ?_) (fun c5 => ?_)
    · have h := cond_t h c5
      refine sr [(2, vi 5)] [] ?_
      refine TriE.ret ?_
      have h := Option.some.inj h
      subst h
      exact DoneS.ret (S' := ⟨[(2, vi 5)], []⟩) Sees.refl rfl rfl
    have h := cond_f h c5
    refine TriE.skip ?_
    refine sj ?_
    refine rn 2 [(0, eS 3 eStocked a0), (3, vi v5), (30, eS 3 eStocked a0), (31, vi v5)] [] ?_
    refine jv (.fptr 3 (List.map eStocked a0) v5 0) (cy (I0 32 (.iaddr 3 (.t 30) (.t 31)))) (ok_iaddr_m (j := v5) rfl rfl rfl c2) rfl ?_
    refine rn 1 [(0, eS 3 eStocked a0), (3, vi v5), (33, .fptr 3 (List.map eStocked a0) v5 1)] [] ?_
    refine jv (vi ((ix a0 v5).Cents)) (cy (I0 34 (.load false 1 (.t 33)))) (ok_load_fm (v := vi ((ix a0 v5).Cents)) rfl c2 rfl) rfl ?_
    obtain ⟨y8, hy8, h⟩ := bind_some h
    refine RegJ.op (Op1.call (y' := vb ((decide (0 ≤ ((ix a0 v5).Cents))) && (decide (((ix a0 v5).Cents) ≤ 1000000000)))) (obx := []) (oby := []) (ob2 := []) _ _ (cy (I0 35 (.call 93 [(.t 34), (.c (.p (.int .i64 0))), (.c (.p (.int .i64 1000000000)))]))) rfl (agraffebase_Within_ok n ((ix a0 v5).Cents) 0 1000000000 y8 hy8) [] (by kernel_rfl) (.cons rfl (.cons rfl (.cons rfl (.cons rfl .nil)))) (by kernel_rfl) (by kernel_rfl) ObsRen.nil (by kernel_rfl) ObsRen.nil (by kernel_rfl)) ?_
    refine rn 2 [(0, eS 3 eStocked a0), (3, vi v5), (37, vb (!((decide (0 ≤ ((ix a0 v5).Cents))) && (decide (((ix a0 v5).Cents) ≤ 1000000000)))))] [] ?_
    refine RegJ.op (Op1.valk (v := eS 3 eStocked a0) _ _ (cy (IG 38 (.mov (.t 0)) 37 false)) rfl (by kernel_rfl) (fun hg => (.cons rfl .nil))) ?_
    refine RegJ.op (Op1.valk (v := vi v5) _ _ (cy (IG 39 (.mov (.t 3)) 37 false)) rfl (by kernel_rfl) (fun hg => (.cons rfl .nil))) ?_
    refine RegJ.op (Op1.valg (v := .fptr 3 (List.map eStocked a0) v5 0) _ _ (cy (IG 40 (.iaddr 3 (.t 38) (.t 39)) 37 false)) rfl (fun hg => (ok_iaddr_m (j := v5) rfl rfl rfl c2)) (fun hg => (.cons hg (.cons hg .nil)))) ?_
    refine RegJ.op (Op1.valk (v := .fptr 3 (List.map eStocked a0) v5 2) _ _ (cy (IG 41 (.faddr 2 (.t 40)) 37 false)) rfl (by kernel_rfl) (fun hg => (.cons hg .nil))) ?_
    refine RegJ.op (Op1.valg (v := vi ((ix a0 v5).Count)) _ _ (cy (IG 42 (.load false 1 (.t 41)) 37 false)) rfl (fun hg => (ok_load_fm (v := vi ((ix a0 v5).Count)) rfl c2 rfl)) (fun hg => (.cons hg .nil))) ?_
    obtain ⟨y9, hy9, h⟩ := bind_some h
    refine RegJ.op (Op1.callg (g := !(!((decide (0 ≤ ((ix a0 v5).Cents))) && (decide (((ix a0 v5).Cents) ≤ 1000000000))))) (y' := vb ((decide (0 ≤ ((ix a0 v5).Count))) && (decide (((ix a0 v5).Count) ≤ 10000)))) (obx := []) _ _ (cy (IG 43 (.call 93 [(.t 42), (.c (.p (.int .i64 0))), (.c (.p (.int .i64 10000)))]) 37 false)) rfl (fun hg => agraffebase_Within_ok n ((ix a0 v5).Count) 0 10000 y9 (gcall_some hy9 hg)) [] (fun hg => by kernel_rfl) (fun hg => (.cons rfl (.cons hg (.cons rfl (.cons rfl .nil))))) (by kernel_rfl) (by kernel_rfl) ObsRen.nil (by kernel_rfl) (by kernel_rfl)) ?_
    refine RegJ.op (Op1.valk (v := vb (!((decide (0 ≤ ((ix a0 v5).Count))) && (decide (((ix a0 v5).Count) ≤ 10000))))) _ _ (cy (IG 44 (.un .not (.t 43)) 37 false)) rfl (by kernel_rfl) (fun hg => (.cons hg .nil))) ?_
    refine RegJ.op (Op1.or (cy (I0 45 (.pick (.t 37) (.c (.p (.bool true))) (.t 44)))) rfl rfl (by first | exact hokO1 | exact hokO0 | simp)) ?_
    refine jp [(0, eS 3 eStocked a0), (3, vi v5), (45, vb ((!((decide (0 ≤ ((ix a0 v5).Cents))) && (decide (((ix a0 v5).Cents) ≤ 1000000000)))) || (!((decide (0 ≤ ((ix a0 v5).Count))) && (decide (((ix a0 v5).Count) ≤ 10000))))))] ?_
    refine TriE.cond (b := (!((decide (0 ≤ ((ix a0 v5).Cents))) && (decide (((ix a0 v5).Cents) ≤ 1000000000)))) || (!((decide (0 ≤ ((ix a0 v5).Count))) && (decide (((ix a0 v5).Count) ≤ 10000))))) rfl (fun c6 => ?_) (fun c6 => ?_)
    · have h := cond_t h c6
      refine sr [(2, vi 2)] [] ?_
      refine TriE.ret ?_
      have h := Option.some.inj h
      subst h
      exact DoneS.ret (S' := ⟨[(2, vi 2)], []⟩) Sees.refl rfl rfl
    have h := cond_f h c6
    refine TriE.skip ?_
    refine TriE.regJ ?_
    refine rn 1 [(0, eS 3 eStocked a0), (11, vi v5)] [] ?_
    obtain ⟨c7, h⟩ := chk_some h
    refine jv (vi ((v5 + 1 : Nat) : Int)) (cy (I0 12 (.bin .add false (.t 11) (.c (.p (.int .i64 1)))))) (r_addn (i := v5) (j := 1) rfl rfl c7) rfl ?_
    refine jq 1 [(0, eS 3 eStocked a0), (3, vi ((v5 + 1 : Nat) : Int))] [] ?_
    exact Vs.intro sy ⟨(v5 + 1), rfl, h⟩
  have h := cond_f h c2
  refine TriE.exit ?_
  exact Vs.intro sy ⟨(), rfl, h⟩
theorem agrafferef08_promised_ok (n : Nat) (a0 : List PartPromise) (a1 : Str) (r : Int) (h : agrafferef08_promised n a0 a1 = some r) : FnL Tryz.prog 109 [eS 3 ePartPromise a0, vt a1] [] (vi r) [] := by
  dsimp only [agrafferef08_promised] at h
  refine FnL.ofS (ts := [4]) Tryz.call109 Tryz.func109 rfl rfl (Nat.le_of_ble_eq_true rfl) (Nat.le_of_ble_eq_true rfl) (fun j h => absurd h (Nat.not_lt_zero j)) ?_
  refine sr [(0, eS 3 ePartPromise a0), (1, vt a1)] [] ?_
  refine sr [(0, eS 3 ePartPromise a0), (1, vt a1), (5, vi 0)] [] ?_
  refine TriE.seqK h (fun (v5 : Int) => St.mk [(5, vi v5)] []) ?_ ?_
  · rintro v5 h
    refine sr [(4, vi v5)] [] ?_
    refine TriE.ret ?_
    have h := Option.some.inj h
    subst h
    exact DoneS.ret (S' := ⟨[(4, vi v5)], []⟩) Sees.refl rfl rfl
  intro k2 h
  refine sr [(0, eS 3 ePartPromise a0), (1, vt a1), (5, vi 0), (6, vi 0)] [] ?_
  refine TriE.block ?_
  refine TriE.sees (S' := ⟨[(0, eS 3 ePartPromise a0), (1, vt a1), (5, vi 0), (6, vi 0)], []⟩) sy ?_
  refine TriE.loopN h (fun (t : Int × Nat) => match t with | (v2, v3) => St.mk [(0, eS 3 ePartPromise a0), (1, vt a1), (5, vi v2), (6, vi v3)] []) rfl ?_
  clear h
  rintro back ⟨v2, v3⟩ h
  dsimp only [agrafferef08_promised_L1] at h
  refine TriE.seq ?_
  refine sj ?_
  refine rn 2 [(0, eS 3 ePartPromise a0), (1, vt a1), (5, vi v2), (6, vi v3), (7, vi v3), (8, eS 3 ePartPromise a0)] [] ?_
  refine jv (vi (a0.length : Int)) (cy (I0 9 (.len 0 (.t 8)))) (ok_len_m rfl) rfl ?_
  refine jv (vb (decide (v3 < a0.length))) (cy (I0 10 (.bin .lss false (.t 7) (.t 9)))) (n_lss (i := v3) (j := a0.length) rfl rfl) rfl ?_
  refine jp [(0, eS 3 ePartPromise a0), (1, vt a1), (5, vi v2), (6, vi v3), (10, vb (decide (v3 < a0.length)))] ?_
  refine TriE.cond (b := decide (v3 < a0.length)) rfl (fun c1 => ?_) (fun c1 => ?_)
  · have h := cond_t h c1
    refine TriE.skip ?_
    refine TriE.seqK h (fun (v4 : Int) => St.mk [(0, eS 3 ePartPromise a0), (1, vt a1), (6, vi v3), (5, vi v4)] []) ?_ ?_
    · rintro v4 h
      refine TriE.regJ ?_
      refine rn 1 [(0, eS 3 ePartPromise a0), (1, vt a1), (5, vi v4), (11, vi v3)] [] ?_
      obtain ⟨c4, h⟩ := chk_some h
      refine jv (vi ((v3 + 1 : Nat) : Int)) (cy (I0 12 (.bin .add false (.t 11) (.c (.p (.int .i64 1)))))) (r_addn (i := v3) (j := 1) rfl rfl c4) rfl ?_
      refine jq 1 [(0, eS 3 ePartPromise a0), (1, vt a1), (5, vi v4), (6, vi ((v3 + 1 : Nat) : Int))] [] ?_
      exact Vs.intro sy ⟨(v4, v3 + 1), rfl, h⟩
    intro k1 h
    refine TriE.block ?_
    refine sj ?_
    refine rn 2 [(0, eS 3 ePartPromise a0), (1, vt a1), (5, vi v2), (6, vi v3), (13, eS 3 ePartPromise a0), (14, vi v3)] [] ?_
    refine jv (.fptr 3 (List.map ePartPromise a0) v3 0) (cy (I0 15 (.iaddr 3 (.t 13) (.t 14)))) (ok_iaddr_m (j := v3) rfl rfl rfl c1) rfl ?_
    refine rn 1 [(0, eS 3 ePartPromise a0), (1, vt a1), (5, vi v2), (6, vi v3), (16, .fptr 3 (List.map ePartPromise a0) v3 1)] [] ?_
    refine jv (vt ((ix a0 v3).Part)) (cy (I0 17 (.load false 1 (.t 16)))) (ok_load_fm (v := vt ((ix a0 v3).Part)) rfl c1 rfl) rfl ?_
    refine jq 2 [(0, eS 3 ePartPromise a0), (1, vt a1), (5, vi v2), (6, vi v3), (19, vb (((ix a0 v3).Part) == a1))] [] ?_
    refine TriE.cond (b := (((ix a0 v3).Part) == a1)) rfl (fun c2 => ?_) (fun c2 => ?_)
    · have h := cond_t h c2
      refine TriE.regJ ?_
      refine rn 3 [(0, eS 3 ePartPromise a0), (1, vt a1), (6, vi v3), (20, vi v2), (21, eS 3 ePartPromise a0), (22, vi v3)] [] ?_
      refine jv (.fptr 3 (List.map ePartPromise a0) v3 0) (cy (I0 23 (.iaddr 3 (.t 21) (.t 22)))) (ok_iaddr_m (j := v3) rfl rfl rfl c1) rfl ?_
      refine rn 1 [(0, eS 3 ePartPromise a0), (1, vt a1), (6, vi v3), (20, vi v2), (24, .fptr 3 (List.map ePartPromise a0) v3 2)] [] ?_
      refine jv (vi ((ix a0 v3).Count)) (cy (I0 25 (.load false 1 (.t 24)))) (ok_load_fm (v := vi ((ix a0 v3).Count)) rfl c1 rfl) rfl ?_
      obtain ⟨c3, h⟩ := chk_some h
      refine jv (vi (v2 + ((ix a0 v3).Count))) (cy (I0 26 (.bin .add false (.t 20) (.t 25)))) (r_add rfl rfl c3) rfl ?_
      refine jq 1 [(0, eS 3 ePartPromise a0), (1, vt a1), (6, vi v3), (5, vi (v2 + ((ix a0 v3).Count)))] [] ?_
      exact Vs.intro Sees.refl ⟨(v2 + ((ix a0 v3).Count)), rfl, h⟩
    have h := cond_f h c2
    refine TriE.skip ?_
    exact Vs.intro sy ⟨v2, rfl, h⟩
  have h := cond_f h c1
  refine TriE.exit ?_
  exact Vs.intro sy ⟨v2, rfl, h⟩
theorem agrafferef08_CheckPromises_ok (n : Nat) (a0 : List Stocked) (a1 : List PartPromise) (r : Int) (h : agrafferef08_CheckPromises n a0 a1 = some r) : FnL Tryz.prog 43 [eS 3 eStocked a0, eS 3 ePartPromise a1] [] (vi r) [] := by
  dsimp only [agrafferef08_CheckPromises] at h
  refine FnL.ofS (ts := [4]) Tryz.call43 Tryz.func43 rfl rfl (Nat.le_of_ble_eq_true rfl) (Nat.le_of_ble_eq_true rfl) (fun j h => absurd h (Nat.not_lt_zero j)) ?_
  refine sr [(0, eS 3 eStocked a0), (1, eS 3 ePartPromise a1)] [] ?_
  refine TriE.seq ?_
  refine sj ?_
  refine rn 1 [(0, eS 3 eStocked a0), (1, eS 3 ePartPromise a1), (8, eS 3 eStocked a0)] [] ?_
  obtain ⟨y1, hy1, h⟩ := bind_some h
  refine RegJ.op (Op1.call (y' := vi y1) (obx := []) (oby := []) (ob2 := []) _ _ (cy (I0 9 (.call 24 [(.t 8)]))) rfl (agrafferef08_CheckStock_ok n a0 y1 hy1) [] (by kernel_rfl) (.cons rfl (.cons rfl .nil)) (by kernel_rfl) (by kernel_rfl) ObsRen.nil (by kernel_rfl) ObsRen.nil (by kernel_rfl)) ?_
  refine jq 1 [(0, eS 3 eStocked a0), (1, eS 3 ePartPromise a1), (5, vi y1)] [] ?_
  refine sr [(0, eS 3 eStocked a0), (1, eS 3 ePartPromise a1), (5, vi y1), (11, vb (y1 != (0 : Int)))] [] ?_
  refine TriE.cond (b := (y1 != (0 : Int))) rfl (fun c1 => ?_) (fun c1 => ?_)
  · have h := cond_t h c1
    refine sr [(4, vi y1)] [] ?_
    refine TriE.ret ?_
    have h := Option.some.inj h
    subst h
    exact DoneS.ret (S' := ⟨[(4, vi y1)], []⟩) Sees.refl rfl rfl
  have h := cond_f h c1
  refine TriE.skip ?_
  refine TriE.seq ?_
  refine sj ?_
  refine rn 1 [(0, eS 3 eStocked a0), (1, eS 3 ePartPromise a1), (13, eS 3 ePartPromise a1)] [] ?_
  refine jv (vi (a1.length : Int)) (cy (I0 14 (.len 0 (.t 13)))) (ok_len_m rfl) rfl ?_
  refine jv (vb (decide (200 < a1.length))) (cy (I0 15 (.bin .gtr false (.t 14) (.c (.p (.int .i64 200)))))) (n_gtr (i := a1.length) (j := 200) rfl rfl) rfl ?_
  refine jp [(0, eS 3 eStocked a0), (1, eS 3 ePartPromise a1), (15, vb (decide (200 < a1.length)))] ?_
  refine TriE.cond (b := decide (200 < a1.length)) rfl (fun c2 => ?_) (fun c2 => ?_)
  · have h := cond_t h c2
    refine sr [(4, vi 8)] [] ?_
    refine TriE.ret ?_
    have h := Option.some.inj h
    subst h
    exact DoneS.ret (S' := ⟨[(4, vi 8)], []⟩) Sees.refl rfl rfl
  have h := cond_f h c2
  refine TriE.skip ?_
  refine TriE.seqK h (fun (_ : Unit) => St.mk [] []) ?_ ?_
  · rintro ⟨⟩ h
    refine sr [(4, vi 0)] [] ?_
    refine TriE.ret ?_
    have h := Option.some.inj h
    subst h
    exact DoneS.ret (S' := ⟨[(4, vi 0)], []⟩) Sees.refl rfl rfl
  intro k1 h
  refine sr [(0, eS 3 eStocked a0), (1, eS 3 ePartPromise a1), (6, vi 0)] [] ?_
  refine TriE.block ?_
  refine TriE.sees (S' := ⟨[(0, eS 3 eStocked a0), (1, eS 3 ePartPromise a1), (6, vi 0)], []⟩) sy ?_
  refine TriE.loopN h (fun (v6 : Nat) => St.mk [(0, eS 3 eStocked a0), (1, eS 3 ePartPromise a1), (6, vi v6)] []) rfl ?_
  clear h
  rintro back v6 h
  dsimp only [agrafferef08_CheckPromises_L1] at h
  refine TriE.seq ?_
  refine sj ?_
  refine rn 2 [(0, eS 3 eStocked a0), (1, eS 3 ePartPromise a1), (6, vi v6), (16, vi v6), (17, eS 3 ePartPromise a1)] [] ?_
  refine jv (vi (a1.length : Int)) (cy (I0 18 (.len 0 (.t 17)))) (ok_len_m rfl) rfl ?_
  refine jv (vb (decide (v6 < a1.length))) (cy (I0 19 (.bin .lss false (.t 16) (.t 18)))) (n_lss (i := v6) (j := a1.length) rfl rfl) rfl ?_
  refine jp [(0, eS 3 eStocked a0), (1, eS 3 ePartPromise a1), (6, vi v6), (19, vb (decide (v6 < a1.length)))] ?_
  refine TriE.cond (b := decide (v6 < a1.length)) rfl (fun c3 => ?_) (fun c3 => ?_)
  · have h := cond_t h c3
    refine TriE.skip ?_
    refine TriE.seq ?_
    refine TriE.block ?_
    refine TriE.seq ?_
    refine sj ?_
    refine rn 2 [(0, eS 3 eStocked a0), (1, eS 3 ePartPromise a1), (6, vi v6), (22, eS 3 ePartPromise a1), (23, vi v6)] [] ?_
    refine jv (.fptr 3 (List.map ePartPromise a1) v6 0) (cy (I0 24 (.iaddr 3 (.t 22) (.t 23)))) (ok_iaddr_m (j := v6) rfl rfl rfl c3) rfl ?_
    refine rn 1 [(0, eS 3 eStocked a0), (1, eS 3 ePartPromise a1), (6, vi v6), (25, .fptr 3 (List.map ePartPromise a1) v6 0)] [] ?_
    refine jv (vt ((ix a1 v6).Instrument)) (cy (I0 26 (.load false 1 (.t 25)))) (ok_load_fm (v := vt ((ix a1 v6).Instrument)) rfl c3 rfl) rfl ?_
    obtain ⟨y7, hy7, h⟩ := bind_some h
    refine RegJ.op (Op1.call (y' := vb y7) (obx := []) (oby := []) (ob2 := []) _ _ (cy (I0 27 (.call 92 [(.t 26)]))) rfl (agraffebase_IsName_ok n ((ix a1 v6).Instrument) y7 hy7) [] (by kernel_rfl) (.cons rfl (.cons rfl .nil)) (by kernel_rfl) (by kernel_rfl) ObsRen.nil (by kernel_rfl) ObsRen.nil (by kernel_rfl)) ?_
    refine jq 1 [(0, eS 3 eStocked a0), (1, eS 3 ePartPromise a1), (6, vi v6), (28, vb (!y7))] [] ?_
    refine TriE.cond (b := !y7) rfl (fun c4 => ?_) (fun c4 => ?_)
    · have h := cond_t h c4
      refine sr [(4, vi 4)] [] ?_
      refine TriE.ret ?_
      have h := Option.some.inj h
      subst h
      exact DoneS.ret (S' := ⟨[(4, vi 4)], []⟩) Sees.refl rfl rfl
    have h := cond_f h c4
    refine TriE.skip ?_
    refine sj ?_
    refine rn 3 [(0, eS 3 eStocked a0), (1, eS 3 ePartPromise a1), (6, vi v6), (29, eS 3 eStocked a0), (30, eS 3 ePartPromise a1), (31, vi v6)] [] ?_
    refine jv (.fptr 3 (List.map ePartPromise a1) v6 0) (cy (I0 32 (.iaddr 3 (.t 30) (.t 31)))) (ok_iaddr_m (j := v6) rfl rfl rfl c3) rfl ?_
    refine rn 1 [(0, eS 3 eStocked a0), (1, eS 3 ePartPromise a1), (6, vi v6), (29, eS 3 eStocked a0), (33, .fptr 3 (List.map ePartPromise a1) v6 1)] [] ?_
    refine jv (vt ((ix a1 v6).Part)) (cy (I0 34 (.load false 1 (.t 33)))) (ok_load_fm (v := vt ((ix a1 v6).Part)) rfl c3 rfl) rfl ?_
    obtain ⟨y8, hy8, h⟩ := bind_some h
    refine RegJ.op (Op1.call (y' := vi y8) (obx := []) (oby := []) (ob2 := []) _ _ (cy (I0 35 (.call 74 [(.t 29), (.t 34)]))) rfl (agrafferef08_FindStock_ok n a0 ((ix a1 v6).Part) y8 hy8) [] (by kernel_rfl) (.cons rfl (.cons rfl (.cons rfl .nil))) (by kernel_rfl) (by kernel_rfl) ObsRen.nil (by kernel_rfl) ObsRen.nil (by kernel_rfl)) ?_
    refine jq 1 [(0, eS 3 eStocked a0), (1, eS 3 ePartPromise a1), (6, vi v6), (7, vi y8)] [] ?_
    refine TriE.seq ?_
    refine sr [(0, eS 3 eStocked a0), (1, eS 3 ePartPromise a1), (6, vi v6), (7, vi y8), (37, vb (decide (y8 < (0 : Int))))] [] ?_
    refine TriE.cond (b := decide (y8 < (0 : Int))) rfl (fun c5 => ?_) (fun c5 => ?_)
    · have h := cond_t h c5
      refine sr [(4, vi 6)] [] ?_
      refine TriE.ret ?_
      have h := Option.some.inj h
      subst h
      exact DoneS.ret (S' := ⟨[(4, vi 6)], []⟩) Sees.refl rfl rfl
    have h := cond_f h c5
    refine TriE.skip ?_
    refine TriE.seq ?_
    refine sj ?_
    refine rn 2 [(0, eS 3 eStocked a0), (1, eS 3 ePartPromise a1), (6, vi v6), (7, vi y8), (38, eS 3 ePartPromise a1), (39, vi v6)] [] ?_
    refine jv (.fptr 3 (List.map ePartPromise a1) v6 0) (cy (I0 40 (.iaddr 3 (.t 38) (.t 39)))) (ok_iaddr_m (j := v6) rfl rfl rfl c3) rfl ?_
    refine rn 1 [(0, eS 3 eStocked a0), (1, eS 3 ePartPromise a1), (6, vi v6), (7, vi y8), (41, .fptr 3 (List.map ePartPromise a1) v6 2)] [] ?_
    refine jv (vi ((ix a1 v6).Count)) (cy (I0 42 (.load false 1 (.t 41)))) (ok_load_fm (v := vi ((ix a1 v6).Count)) rfl c3 rfl) rfl ?_
    obtain ⟨y9, hy9, h⟩ := bind_some h
    refine RegJ.op (Op1.call (y' := vb ((decide (1 ≤ ((ix a1 v6).Count))) && (decide (((ix a1 v6).Count) ≤ 10000)))) (obx := []) (oby := []) (ob2 := []) _ _ (cy (I0 43 (.call 93 [(.t 42), (.c (.p (.int .i64 1))), (.c (.p (.int .i64 10000)))]))) rfl (agraffebase_Within_ok n ((ix a1 v6).Count) 1 10000 y9 hy9) [] (by kernel_rfl) (.cons rfl (.cons rfl (.cons rfl (.cons rfl .nil)))) (by kernel_rfl) (by kernel_rfl) ObsRen.nil (by kernel_rfl) ObsRen.nil (by kernel_rfl)) ?_
    refine jq 1 [(0, eS 3 eStocked a0), (1, eS 3 ePartPromise a1), (6, vi v6), (7, vi y8), (44, vb (!((decide (1 ≤ ((ix a1 v6).Count))) && (decide (((ix a1 v6).Count) ≤ 10000)))))] [] ?_
    refine TriE.cond (b := !((decide (1 ≤ ((ix a1 v6).Count))) && (decide (((ix a1 v6).Count) ≤ 10000)))) rfl (fun c6 => ?_) (fun c6 => ?_)
    · have h := cond_t h c6
      refine sr [(4, vi 2)] [] ?_
      refine TriE.ret ?_
      have h := Option.some.inj h
      subst h
      exact DoneS.ret (S' := ⟨[(4, vi 2)], []⟩) Sees.refl rfl rfl
    have h := cond_f h c6
    refine TriE.skip ?_
    refine TriE.seq ?_
    refine TriE.sees (Sees.less (fr' := [(0, eS 3 eStocked a0), (1, eS 3 ePartPromise a1), (6, vi v6), (7, vi y8)]) (.cons rfl (.cons rfl (.cons rfl (.cons rfl .nil))))) ?_
    refine TriE.draw (by kernel_rfl) ?_
    refine RegD.run 2 [(46, vi v6), (45, eS 3 ePartPromise a1), (0, eS 3 eStocked a0), (1, eS 3 ePartPromise a1), (6, vi v6), (7, vi y8)] [none, none] (by kernel_rfl) ?_
    obtain ⟨c7, h⟩ := chk_some h
    refine dv (vi ((v6 + 1 : Nat) : Int)) (cy (I0 47 (.bin .add false (.t 46) (.c (.p (.int .i64 1)))))) (r_addn (i := v6) (j := 1) rfl rfl c7) rfl ?_
    obtain ⟨c8, h⟩ := chk_some h
    refine dv (eS 3 ePartPromise (List.take (v6 + 1) a1)) (cy (I0 48 (.slc 3 (.t 45) none (some (.t 47)) none))) (ok_slc_hi (j := v6 + 1) rfl rfl rfl c8) rfl ?_
    refine RegD.run 2 [(50, vi v6), (49, eS 3 ePartPromise a1), (48, eS 3 ePartPromise (List.take (v6 + 1) a1)), (47, vi ((v6 + 1 : Nat) : Int)), (46, vi v6), (45, eS 3 ePartPromise a1), (0, eS 3 eStocked a0), (1, eS 3 ePartPromise a1), (6, vi v6), (7, vi y8)] [none, none, none, none, none, none] (by kernel_rfl) ?_
    refine dv (.fptr 3 (List.map ePartPromise a1) v6 0) (cy (I0 51 (.iaddr 3 (.t 49) (.t 50)))) (ok_iaddr_m (j := v6) rfl rfl rfl c3) rfl ?_
    refine RegD.run 1 [(52, .fptr 3 (List.map ePartPromise a1) v6 1), (51, .fptr 3 (List.map ePartPromise a1) v6 0), (50, vi v6), (49, eS 3 ePartPromise a1), (48, eS 3 ePartPromise (List.take (v6 + 1) a1)), (47, vi ((v6 + 1 : Nat) : Int)), (46, vi v6), (45, eS 3 ePartPromise a1), (0, eS 3 eStocked a0), (1, eS 3 ePartPromise a1), (6, vi v6), (7, vi y8)] [none, none, none, none, none, none, none, none] (by kernel_rfl) ?_
    refine dv (vt ((ix a1 v6).Part)) (cy (I0 53 (.load false 1 (.t 52)))) (ok_load_fm (v := vt ((ix a1 v6).Part)) rfl c3 rfl) rfl ?_
    obtain ⟨y10, hy10, h⟩ := bind_some h
    refine RegD.op (OpD.call (y' := vi y10) (obx := []) (oby := []) (ob2 := [none, none, none, none, none, none, none, none, none, none]) (tch := []) 0 _ _ (cy (I0 54 (.call 109 [(.t 48), (.t 53)]))) (agrafferef08_promised_ok n (List.take (v6 + 1) a1) ((ix a1 v6).Part) y10 hy10) [] (by kernel_rfl) (.cons rfl (.cons rfl (.cons rfl .nil))) (by kernel_rfl) (by kernel_rfl) ObsRen.nil (by kernel_rfl) ObsRen.nil (by kernel_rfl) rfl (.inr ⟨rfl, rfl⟩)) ?_
    refine RegD.run 2 [(56, vi y8), (55, eS 3 eStocked a0), (54, vi y10), (53, vt ((ix a1 v6).Part)), (52, .fptr 3 (List.map ePartPromise a1) v6 1), (51, .fptr 3 (List.map ePartPromise a1) v6 0), (50, vi v6), (49, eS 3 ePartPromise a1), (48, eS 3 ePartPromise (List.take (v6 + 1) a1)), (47, vi ((v6 + 1 : Nat) : Int)), (46, vi v6), (45, eS 3 ePartPromise a1), (0, eS 3 eStocked a0), (1, eS 3 ePartPromise a1), (6, vi v6), (7, vi y8)] [none, none, none, none, none, none, none, none, none, none, none, none] (by kernel_rfl) ?_
    obtain ⟨c9, h⟩ := chk_some h
    refine dv (.fptr 3 (List.map eStocked a0) y8.toNat 0) (cy (I0 57 (.iaddr 3 (.t 55) (.t 56)))) (ok_iaddr_m (j := y8.toNat) rfl rfl (inB_to c9) (inB_lt c9)) rfl ?_
    refine RegD.run 1 [(58, .fptr 3 (List.map eStocked a0) y8.toNat 2), (57, .fptr 3 (List.map eStocked a0) y8.toNat 0), (56, vi y8), (55, eS 3 eStocked a0), (54, vi y10), (53, vt ((ix a1 v6).Part)), (52, .fptr 3 (List.map ePartPromise a1) v6 1), (51, .fptr 3 (List.map ePartPromise a1) v6 0), (50, vi v6), (49, eS 3 ePartPromise a1), (48, eS 3 ePartPromise (List.take (v6 + 1) a1)), (47, vi ((v6 + 1 : Nat) : Int)), (46, vi v6), (45, eS 3 ePartPromise a1), (0, eS 3 eStocked a0), (1, eS 3 ePartPromise a1), (6, vi v6), (7, vi y8)] [none, none, none, none, none, none, none, none, none, none, none, none, none, none] (by kernel_rfl) ?_
    obtain ⟨c10, h⟩ := chk_some h
    refine dv (vi ((ix a0 y8.toNat).Count)) (cy (I0 59 (.load false 1 (.t 58)))) (ok_load_fm (v := vi ((ix a0 y8.toNat).Count)) rfl c10 rfl) rfl ?_
    refine RegD.run 1 [(60, vb (decide (((ix a0 y8.toNat).Count) < y10))), (59, vi ((ix a0 y8.toNat).Count)), (58, .fptr 3 (List.map eStocked a0) y8.toNat 2), (57, .fptr 3 (List.map eStocked a0) y8.toNat 0), (56, vi y8), (55, eS 3 eStocked a0), (54, vi y10), (53, vt ((ix a1 v6).Part)), (52, .fptr 3 (List.map ePartPromise a1) v6 1), (51, .fptr 3 (List.map ePartPromise a1) v6 0), (50, vi v6), (49, eS 3 ePartPromise a1), (48, eS 3 ePartPromise (List.take (v6 + 1) a1)), (47, vi ((v6 + 1 : Nat) : Int)), (46, vi v6), (45, eS 3 ePartPromise a1), (0, eS 3 eStocked a0), (1, eS 3 ePartPromise a1), (6, vi v6), (7, vi y8)] [none, none, none, none, none, none, none, none, none, none, none, none, none, none, none, none] (by kernel_rfl) ?_
    refine RegD.done rfl (by kernel_rfl) (S' := ⟨[(0, eS 3 eStocked a0), (1, eS 3 ePartPromise a1), (6, vi v6), (60, vb (decide (((ix a0 y8.toNat).Count) < y10)))], []⟩) (sc [] (by decide) (by kernel_rfl) ObRen.nil rfl rfl) ?_
    refine TriE.cond (b := decide (((ix a0 y8.toNat).Count) < y10)) rfl (fun c11 => ?_) (fun c11 => ?_)
    · have h := cond_t h c11
      refine sr [(4, vi 20)] [] ?_
      refine TriE.ret ?_
      have h := Option.some.inj h
      subst h
      exact DoneS.ret (S' := ⟨[(4, vi 20)], []⟩) Sees.refl rfl rfl
    have h := cond_f h c11
    refine TriE.skip ?_
    refine TriE.regJ ?_
    refine rn 1 [(0, eS 3 eStocked a0), (1, eS 3 ePartPromise a1), (20, vi v6)] [] ?_
    refine jv (vi ((v6 + 1 : Nat) : Int)) (cy (I0 21 (.bin .add false (.t 20) (.c (.p (.int .i64 1)))))) (r_addn (i := v6) (j := 1) rfl rfl c7) rfl ?_
    refine jq 1 [(0, eS 3 eStocked a0), (1, eS 3 ePartPromise a1), (6, vi ((v6 + 1 : Nat) : Int))] [] ?_
    exact Vs.intro sy ⟨(v6 + 1), rfl, h⟩
  have h := cond_f h c3
  refine TriE.exit ?_
  exact Vs.intro sy ⟨(), rfl, h⟩
theorem agrafferef08_FindPart_ok (n : Nat) (a0 : List PartCount) (a1 : Str) (r : Int) (h : agrafferef08_FindPart n a0 a1 = some r) : FnL Tryz.prog 147 [eS 2 ePartCount a0, vt a1] [] (vi r) [] := by
  dsimp only [agrafferef08_FindPart] at h
  refine FnL.ofS (ts := [4]) Tryz.call147 Tryz.func147 rfl rfl (Nat.le_of_ble_eq_true rfl) (Nat.le_of_ble_eq_true rfl) (fun j h => absurd h (Nat.not_lt_zero j)) ?_
  refine sr [(0, eS 2 ePartCount a0), (1, vt a1)] [] ?_
  refine TriE.seqK h (fun (_ : Unit) => St.mk [] []) ?_ ?_
  · rintro ⟨⟩ h
    refine sr [(4, vi (-1))] [] ?_
    refine TriE.ret ?_
    have h := Option.some.inj h
    subst h
    exact DoneS.ret (S' := ⟨[(4, vi (-1))], []⟩) Sees.refl rfl rfl
  intro k1 h
  refine sr [(0, eS 2 ePartCount a0), (1, vt a1), (5, vi 0)] [] ?_
  refine TriE.block ?_
  refine TriE.sees (S' := ⟨[(0, eS 2 ePartCount a0), (1, vt a1), (5, vi 0)], []⟩) sy ?_
  refine TriE.loopN h (fun (v1 : Nat) => St.mk [(0, eS 2 ePartCount a0), (1, vt a1), (5, vi v1)] []) rfl ?_
  clear h
  rintro back v1 h
  dsimp only [agrafferef08_FindPart_L1] at h
  refine TriE.seq ?_
  refine sj ?_
  refine rn 2 [(0, eS 2 ePartCount a0), (1, vt a1), (5, vi v1), (6, vi v1), (7, eS 2 ePartCount a0)] [] ?_
  refine jv (vi (a0.length : Int)) (cy (I0 8 (.len 0 (.t 7)))) (ok_len_m rfl) rfl ?_
  refine jv (vb (decide (v1 < a0.length))) (cy (I0 9 (.bin .lss false (.t 6) (.t 8)))) (n_lss (i := v1) (j := a0.length) rfl rfl) rfl ?_
  refine jp [(0, eS 2 ePartCount a0), (1, vt a1), (5, vi v1), (9, vb (decide (v1 < a0.length)))] ?_
  refine TriE.cond (b := decide (v1 < a0.length)) rfl (fun c1 => ?_) (fun c1 => ?_)
  · have h := cond_t h c1
    refine TriE.skip ?_
    refine TriE.seq ?_
    refine TriE.block ?_
    refine sj ?_
    refine rn 2 [(0, eS 2 ePartCount a0), (1, vt a1), (5, vi v1), (12, eS 2 ePartCount a0), (13, vi v1)] [] ?_
    refine jv (.fptr 2 (List.map ePartCount a0) v1 0) (cy (I0 14 (.iaddr 2 (.t 12) (.t 13)))) (ok_iaddr_m (j := v1) rfl rfl rfl c1) rfl ?_
    refine rn 1 [(0, eS 2 ePartCount a0), (1, vt a1), (5, vi v1), (15, .fptr 2 (List.map ePartCount a0) v1 0)] [] ?_
    refine jv (vt ((ix a0 v1).Part)) (cy (I0 16 (.load false 1 (.t 15)))) (ok_load_fm (v := vt ((ix a0 v1).Part)) rfl c1 rfl) rfl ?_
    refine jq 2 [(0, eS 2 ePartCount a0), (1, vt a1), (5, vi v1), (18, vb (((ix a0 v1).Part) == a1))] [] ?_
    refine TriE.cond (b := (((ix a0 v1).Part) == a1)) rfl (fun c2 => ?_) (fun c2 => ?_)
    · have h := cond_t h c2
      refine sr [(4, vi v1)] [] ?_
      refine TriE.ret ?_
      have h := Option.some.inj h
      subst h
      exact DoneS.ret (S' := ⟨[(4, vi v1)], []⟩) Sees.refl rfl rfl
    have h := cond_f h c2
    refine TriE.skip ?_
    refine TriE.regJ ?_
    refine rn 1 [(0, eS 2 ePartCount a0), (1, vt a1), (10, vi v1)] [] ?_
    obtain ⟨c3, h⟩ := chk_some h
    refine jv (vi ((v1 + 1 : Nat) : Int)) (cy (I0 11 (.bin .add false (.t 10) (.c (.p (.int .i64 1)))))) (r_addn (i := v1) (j := 1) rfl rfl c3) rfl ?_
    refine jq 1 [(0, eS 2 ePartCount a0), (1, vt a1), (5, vi ((v1 + 1 : Nat) : Int))] [] ?_
    exact Vs.intro sy ⟨(v1 + 1), rfl, h⟩
  have h := cond_f h c1
  refine TriE.exit ?_
  exact Vs.intro sy ⟨(), rfl, h⟩
theorem agrafferef08_counts_ok (n : Nat) (a0 : List PartCount) (a1 : Int) (r : Int) (h : agrafferef08_counts n a0 a1 = some r) : FnL Tryz.prog 110 [eS 2 ePartCount a0, vi a1] [] (vi r) [] := by
  dsimp only [agrafferef08_counts] at h
  refine FnL.ofS (ts := [4]) Tryz.call110 Tryz.func110 rfl rfl (Nat.le_of_ble_eq_true rfl) (Nat.le_of_ble_eq_true rfl) (fun j h => absurd h (Nat.not_lt_zero j)) ?_
  refine sr [(0, eS 2 ePartCount a0), (1, vi a1)] [] ?_
  refine TriE.seqK h (fun (_ : Unit) => St.mk [] []) ?_ ?_
  · rintro ⟨⟩ h
    refine sr [(4, vi 0)] [] ?_
    refine TriE.ret ?_
    have h := Option.some.inj h
    subst h
    exact DoneS.ret (S' := ⟨[(4, vi 0)], []⟩) Sees.refl rfl rfl
  intro k1 h
  refine sr [(0, eS 2 ePartCount a0), (1, vi a1), (5, vi 0)] [] ?_
  refine TriE.block ?_
  refine TriE.sees (S' := ⟨[(0, eS 2 ePartCount a0), (1, vi a1), (5, vi 0)], []⟩) sy ?_
  refine TriE.loopN h (fun (v4 : Nat) => St.mk [(0, eS 2 ePartCount a0), (1, vi a1), (5, vi v4)] []) rfl ?_
  clear h
  rintro back v4 h
  dsimp only [agrafferef08_counts_L1] at h
  refine TriE.seq ?_
  refine sj ?_
  refine rn 2 [(0, eS 2 ePartCount a0), (1, vi a1), (5, vi v4), (6, vi v4), (7, eS 2 ePartCount a0)] [] ?_
  refine jv (vi (a0.length : Int)) (cy (I0 8 (.len 0 (.t 7)))) (ok_len_m rfl) rfl ?_
  refine jv (vb (decide (v4 < a0.length))) (cy (I0 9 (.bin .lss false (.t 6) (.t 8)))) (n_lss (i := v4) (j := a0.length) rfl rfl) rfl ?_
  refine jp [(0, eS 2 ePartCount a0), (1, vi a1), (5, vi v4), (9, vb (decide (v4 < a0.length)))] ?_
  refine TriE.cond (b := decide (v4 < a0.length)) rfl (fun c1 => ?_) (fun c1 => ?_)
  · have h := cond_t h c1
    refine TriE.skip ?_
    refine TriE.seq ?_
    refine TriE.block ?_
    refine TriE.seq ?_
    refine sj ?_
    refine rn 2 [(0, eS 2 ePartCount a0), (1, vi a1), (5, vi v4), (12, eS 2 ePartCount a0), (13, vi v4)] [] ?_
    refine jv (.fptr 2 (List.map ePartCount a0) v4 0) (cy (I0 14 (.iaddr 2 (.t 12) (.t 13)))) (ok_iaddr_m (j := v4) rfl rfl rfl c1) rfl ?_
    refine rn 1 [(0, eS 2 ePartCount a0), (1, vi a1), (5, vi v4), (15, .fptr 2 (List.map ePartCount a0) v4 0)] [] ?_
    refine jv (vt ((ix a0 v4).Part)) (cy (I0 16 (.load false 1 (.t 15)))) (ok_load_fm (v := vt ((ix a0 v4).Part)) rfl c1 rfl) rfl ?_
    obtain ⟨y5, hy5, h⟩ := bind_some h
    refine RegJ.op (Op1.call (y' := vb y5) (obx := []) (oby := []) (ob2 := []) _ _ (cy (I0 17 (.call 92 [(.t 16)]))) rfl (agraffebase_IsName_ok n ((ix a0 v4).Part) y5 hy5) [] (by kernel_rfl) (.cons rfl (.cons rfl .nil)) (by kernel_rfl) (by kernel_rfl) ObsRen.nil (by kernel_rfl) ObsRen.nil (by kernel_rfl)) ?_
    refine jq 1 [(0, eS 2 ePartCount a0), (1, vi a1), (5, vi v4), (18, vb (!y5))] [] ?_
    refine TriE.cond (b := !y5) rfl (fun c2 => ?_) (fun c2 => ?_)
    · have h := cond_t h c2
      refine sr [(4, vi 4)] [] ?_
      refine TriE.ret ?_
      have h := Option.some.inj h
      subst h
      exact DoneS.ret (S' := ⟨[(4, vi 4)], []⟩) Sees.refl rfl rfl
    have h := cond_f h c2
    refine TriE.skip ?_
    refine TriE.seq ?_
    refine TriE.seq ?_
    refine TriE.sees (Sees.less (fr' := [(0, eS 2 ePartCount a0), (1, vi a1), (5, vi v4)]) (.cons rfl (.cons rfl (.cons rfl .nil)))) ?_
    refine TriE.draw (by kernel_rfl) ?_
    refine RegD.run 2 [(20, vi v4), (19, eS 2 ePartCount a0), (0, eS 2 ePartCount a0), (1, vi a1), (5, vi v4)] [none, none] (by kernel_rfl) ?_
    obtain ⟨c3, h⟩ := chk_some h
    refine dv (eS 2 ePartCount (List.take v4 a0)) (cy (I0 21 (.slc 2 (.t 19) none (some (.t 20)) none))) (ok_slc_hi (j := v4) rfl rfl rfl c3) rfl ?_
    refine RegD.run 2 [(23, vi v4), (22, eS 2 ePartCount a0), (21, eS 2 ePartCount (List.take v4 a0)), (20, vi v4), (19, eS 2 ePartCount a0), (0, eS 2 ePartCount a0), (1, vi a1), (5, vi v4)] [none, none, none, none, none] (by kernel_rfl) ?_
    refine dv (.fptr 2 (List.map ePartCount a0) v4 0) (cy (I0 24 (.iaddr 2 (.t 22) (.t 23)))) (ok_iaddr_m (j := v4) rfl rfl rfl c1) rfl ?_
    refine RegD.run 1 [(25, .fptr 2 (List.map ePartCount a0) v4 0), (24, .fptr 2 (List.map ePartCount a0) v4 0), (23, vi v4), (22, eS 2 ePartCount a0), (21, eS 2 ePartCount (List.take v4 a0)), (20, vi v4), (19, eS 2 ePartCount a0), (0, eS 2 ePartCount a0), (1, vi a1), (5, vi v4)] [none, none, none, none, none, none, none] (by kernel_rfl) ?_
    refine dv (vt ((ix a0 v4).Part)) (cy (I0 26 (.load false 1 (.t 25)))) (ok_load_fm (v := vt ((ix a0 v4).Part)) rfl c1 rfl) rfl ?_
    obtain ⟨y6, hy6, h⟩ := bind_some h
    refine RegD.op (OpD.call (y' := vi y6) (obx := []) (oby := []) (ob2 := [none, none, none, none, none, none, none, none, none]) (tch := []) 0 _ _ (cy (I0 27 (.call 147 [(.t 21), (.t 26)]))) (agrafferef08_FindPart_ok n (List.take v4 a0) ((ix a0 v4).Part) y6 hy6) [] (by kernel_rfl) (.cons rfl (.cons rfl (.cons rfl .nil))) (by kernel_rfl) (by kernel_rfl) ObsRen.nil (by kernel_rfl) ObsRen.nil (by kernel_rfl) rfl (.inr ⟨rfl, rfl⟩)) ?_
    refine RegD.run 1 [(28, vb (decide ((0 : Int) ≤ y6))), (27, vi y6), (26, vt ((ix a0 v4).Part)), (25, .fptr 2 (List.map ePartCount a0) v4 0), (24, .fptr 2 (List.map ePartCount a0) v4 0), (23, vi v4), (22, eS 2 ePartCount a0), (21, eS 2 ePartCount (List.take v4 a0)), (20, vi v4), (19, eS 2 ePartCount a0), (0, eS 2 ePartCount a0), (1, vi a1), (5, vi v4)] [none, none, none, none, none, none, none, none, none, none] (by kernel_rfl) ?_
    refine RegD.done rfl (by kernel_rfl) (S' := ⟨[(0, eS 2 ePartCount a0), (1, vi a1), (5, vi v4), (28, vb (decide ((0 : Int) ≤ y6)))], []⟩) (sc [] (by decide) (by kernel_rfl) ObRen.nil rfl rfl) ?_
    refine TriE.cond (b := decide ((0 : Int) ≤ y6)) rfl (fun c4 => ?_) (fun c4 => ?_)
    · have h := cond_t h c4
      refine sr [(4, vi 5)] [] ?_
      refine TriE.ret ?_
      have h := Option.some.inj h
      subst h
      exact DoneS.ret (S' := ⟨[(4, vi 5)], []⟩) Sees.refl rfl rfl
    have h := cond_f h c4
    refine TriE.skip ?_
    refine sj ?_
    refine rn 2 [(0, eS 2 ePartCount a0), (1, vi a1), (5, vi v4), (29, eS 2 ePartCount a0), (30, vi v4)] [] ?_
    refine jv (.fptr 2 (List.map ePartCount a0) v4 0) (cy (I0 31 (.iaddr 2 (.t 29) (.t 30)))) (ok_iaddr_m (j := v4) rfl rfl rfl c1) rfl ?_
    refine rn 1 [(0, eS 2 ePartCount a0), (1, vi a1), (5, vi v4), (32, .fptr 2 (List.map ePartCount a0) v4 1)] [] ?_
    refine jv (vi ((ix a0 v4).Count)) (cy (I0 33 (.load false 1 (.t 32)))) (ok_load_fm (v := vi ((ix a0 v4).Count)) rfl c1 rfl) rfl ?_
    refine rn 1 [(0, eS 2 ePartCount a0), (1, vi a1), (5, vi v4), (33, vi ((ix a0 v4).Count)), (34, vi a1)] [] ?_
    obtain ⟨y7, hy7, h⟩ := bind_some h
    refine RegJ.op (Op1.call (y' := vb ((decide (1 ≤ ((ix a0 v4).Count))) && (decide (((ix a0 v4).Count) ≤ a1)))) (obx := []) (oby := []) (ob2 := []) _ _ (cy (I0 35 (.call 93 [(.t 33), (.c (.p (.int .i64 1))), (.t 34)]))) rfl (agraffebase_Within_ok n ((ix a0 v4).Count) 1 a1 y7 hy7) [] (by kernel_rfl) (.cons rfl (.cons rfl (.cons rfl (.cons rfl .nil)))) (by kernel_rfl) (by kernel_rfl) ObsRen.nil (by kernel_rfl) ObsRen.nil (by kernel_rfl)) ?_
    refine jq 1 [(0, eS 2 ePartCount a0), (1, vi a1), (5, vi v4), (36, vb (!((decide (1 ≤ ((ix a0 v4).Count))) && (decide (((ix a0 v4).Count) ≤ a1)))))] [] ?_
    refine TriE.cond (b := !((decide (1 ≤ ((ix a0 v4).Count))) && (decide (((ix a0 v4).Count) ≤ a1)))) rfl (fun c5 => ?_) (fun c5 => ?_)
    · have h := cond_t h c5
      refine sr [(4, vi 2)] [] ?_
      refine TriE.ret ?_
      have h := Option.some.inj h
      subst h
      exact DoneS.ret (S' := ⟨[(4, vi 2)], []⟩) Sees.refl rfl rfl
    have h := cond_f h c5
    refine TriE.skip ?_
    refine TriE.regJ ?_
    refine rn 1 [(0, eS 2 ePartCount a0), (1, vi a1), (10, vi v4)] [] ?_
    obtain ⟨c6, h⟩ := chk_some h
    refine jv (vi ((v4 + 1 : Nat) : Int)) (cy (I0 11 (.bin .add false (.t 10) (.c (.p (.int .i64 1)))))) (r_addn (i := v4) (j := 1) rfl rfl c6) rfl ?_
    refine jq 1 [(0, eS 2 ePartCount a0), (1, vi a1), (5, vi ((v4 + 1 : Nat) : Int))] [] ?_
    exact Vs.intro sy ⟨(v4 + 1), rfl, h⟩
  have h := cond_f h c1
  refine TriE.exit ?_
  exact Vs.intro sy ⟨(), rfl, h⟩
theorem agrafferef08_MissingParts_ok (n : Nat) (a0 : List Stocked) (a1 : List PartPromise) (a2 : List PartCount) (r : Int × (List PartCount)) (h : agrafferef08_MissingParts n a0 a1 a2 = some r) : FnL Tryz.prog 44 [eS 3 eStocked a0, eS 3 ePartPromise a1, eS 2 ePartCount a2] [] (.tup [eS 2 ePartCount r.2, vi r.1]) [] := by
  dsimp only [agrafferef08_MissingParts] at h
  refine FnL.ofS (ts := [6, 7]) Tryz.call44 Tryz.func44 rfl rfl (Nat.le_of_ble_eq_true rfl) (Nat.le_of_ble_eq_true rfl) (fun j h => absurd h (Nat.not_lt_zero j)) ?_
  refine sr [(0, eS 3 eStocked a0), (1, eS 3 ePartPromise a1), (2, eS 2 ePartCount a2)] [] ?_
  refine TriE.seq ?_
  refine sj ?_
  refine rn 1 [(0, eS 3 eStocked a0), (1, eS 3 ePartPromise a1), (2, eS 2 ePartCount a2), (13, eS 2 ePartCount a2)] [] ?_
  refine jv (vi (a2.length : Int)) (cy (I0 14 (.len 0 (.t 13)))) (ok_len_m rfl) rfl ?_
  refine jv (vb (decide (60 < a2.length))) (cy (I0 15 (.bin .gtr false (.t 14) (.c (.p (.int .i64 60)))))) (n_gtr (i := a2.length) (j := 60) rfl rfl) rfl ?_
  refine jp [(0, eS 3 eStocked a0), (1, eS 3 ePartPromise a1), (2, eS 2 ePartCount a2), (15, vb (decide (60 < a2.length)))] ?_
  refine TriE.cond (b := decide (60 < a2.length)) rfl (fun c1 => ?_) (fun c1 => ?_)
  · have h := cond_t h c1
    refine sr [(6, .emp), (7, vi 8)] [] ?_
    refine TriE.ret ?_
    have h := Option.some.inj h
    subst h
    exact DoneS.ret (S' := ⟨[(6, eS 2 ePartCount ([] : List PartCount)), (7, vi 8)], []⟩) (Sees.trans (Sees.vco (fr' := [(6, eS 2 ePartCount ([] : List PartCount)), (7, vi 8)]) (.cons .sl (.cons .same .nil))) sy) rfl rfl
  have h := cond_f h c1
  refine TriE.skip ?_
  refine TriE.seq ?_
  refine sj ?_
  refine rn 1 [(0, eS 3 eStocked a0), (1, eS 3 ePartPromise a1), (2, eS 2 ePartCount a2), (16, eS 2 ePartCount a2)] [] ?_
  obtain ⟨y1, hy1, h⟩ := bind_some h
  refine RegJ.op (Op1.call (y' := vi y1) (obx := []) (oby := []) (ob2 := []) _ _ (cy (I0 17 (.call 110 [(.t 16), (.c (.p (.int .i64 10000)))]))) rfl (agrafferef08_counts_ok n a2 10000 y1 hy1) [] (by kernel_rfl) (.cons rfl (.cons rfl (.cons rfl .nil))) (by kernel_rfl) (by kernel_rfl) ObsRen.nil (by kernel_rfl) ObsRen.nil (by kernel_rfl)) ?_
  refine jq 1 [(0, eS 3 eStocked a0), (1, eS 3 ePartPromise a1), (2, eS 2 ePartCount a2), (8, vi y1)] [] ?_
  refine sr [(0, eS 3 eStocked a0), (1, eS 3 ePartPromise a1), (2, eS 2 ePartCount a2), (8, vi y1), (19, vb (y1 != (0 : Int)))] [] ?_
  refine TriE.cond (b := (y1 != (0 : Int))) rfl (fun c2 => ?_) (fun c2 => ?_)
  · have h := cond_t h c2
    refine sr [(6, .emp), (7, vi y1)] [] ?_
    refine TriE.ret ?_
    have h := Option.some.inj h
    subst h
    exact DoneS.ret (S' := ⟨[(6, eS 2 ePartCount ([] : List PartCount)), (7, vi y1)], []⟩) (Sees.trans (Sees.vco (fr' := [(6, eS 2 ePartCount ([] : List PartCount)), (7, vi y1)]) (.cons .sl (.cons .same .nil))) sy) rfl rfl
  have h := cond_f h c2
  refine TriE.skip ?_
  refine sr [(0, eS 3 eStocked a0), (1, eS 3 ePartPromise a1), (2, eS 2 ePartCount a2), (9, .emp)] [] ?_
  refine TriE.seqK h (fun (v12 : (List PartCount)) => St.mk [(9, .own 0 0 v12.length)] [some (.row 2 (List.map ePartCount v12))]) ?_ ?_
  · rintro v12 h
    refine sr [(6, .own 0 0 v12.length), (7, vi 0)] [some (.row 2 (List.map ePartCount v12))] ?_
    refine TriE.ret ?_
    have h := Option.some.inj h
    subst h
    exact DoneS.ret (S' := ⟨[(6, eS 2 ePartCount v12), (7, vi 0)], []⟩) (Sees.trans (Sees.freeze 0 (fr' := [(6, eS 2 ePartCount v12), (7, vi 0)]) (ob' := [none]) rfl (frz_row ePartCount_frzE _) (.cons (frz_full rfl) (.cons (.refl _) .nil)) rfl) (sc [] (by decide) (by kernel_rfl) ObRen.nil rfl rfl)) rfl rfl
  intro k3 h
  refine sr [(0, eS 3 eStocked a0), (1, eS 3 ePartPromise a1), (2, eS 2 ePartCount a2), (9, .emp), (10, vi 0)] [] ?_
  refine TriE.block ?_
  refine TriE.sees (S' := ⟨[(0, eS 3 eStocked a0), (1, eS 3 ePartPromise a1), (2, eS 2 ePartCount a2), (9, .own 0 0 ([] : List PartCount).length), (10, vi 0)], [some (.row 2 (List.map ePartCount ([] : List PartCount)))]⟩) (Sees.trans (Sees.co (fr' := [(0, eS 3 eStocked a0), (1, eS 3 ePartPromise a1), (2, eS 2 ePartCount a2), (9, .own 0 0 0), (10, vi 0)]) (ob' := []) (.cons .same (.cons .same (.cons .same (.cons .own (.cons .same .nil))))) ObCo.nil 2) sy) ?_
  refine TriE.loopN h (fun (t : (List PartCount) × Nat) => match t with | (v6, v7) => St.mk [(0, eS 3 eStocked a0), (1, eS 3 ePartPromise a1), (2, eS 2 ePartCount a2), (9, .own 0 0 v6.length), (10, vi v7)] [some (.row 2 (List.map ePartCount v6))]) rfl ?_
  clear h
  rintro back ⟨v6, v7⟩ h
  dsimp only [agrafferef08_MissingParts_L1] at h
  refine TriE.seq ?_
  refine sj ?_
  refine rn 2 [(0, eS 3 eStocked a0), (1, eS 3 ePartPromise a1), (2, eS 2 ePartCount a2), (9, .own 0 0 v6.length), (10, vi v7), (21, vi v7), (22, eS 2 ePartCount a2)] [some (.row 2 (List.map ePartCount v6))] ?_
  refine jv (vi (a2.length : Int)) (cy (I0 23 (.len 0 (.t 22)))) (ok_len_m rfl) rfl ?_
  refine jv (vb (decide (v7 < a2.length))) (cy (I0 24 (.bin .lss false (.t 21) (.t 23)))) (n_lss (i := v7) (j := a2.length) rfl rfl) rfl ?_
  refine jp [(0, eS 3 eStocked a0), (1, eS 3 ePartPromise a1), (2, eS 2 ePartCount a2), (9, .own 0 0 v6.length), (10, vi v7), (24, vb (decide (v7 < a2.length)))] ?_
  refine TriE.cond (b := decide (v7 < a2.length)) rfl (fun c3 => ?_) (fun c3 => ?_)
  · have h := cond_t h c3
    refine TriE.skip ?_
    refine TriE.seqK h (fun (v11 : (List PartCount)) => St.mk [(0, eS 3 eStocked a0), (1, eS 3 ePartPromise a1), (2, eS 2 ePartCount a2), (10, vi v7), (9, .own 0 0 v11.length)] [some (.row 2 (List.map ePartCount v11))]) ?_ ?_
    · rintro v11 h
      refine TriE.regJ ?_
      refine rn 1 [(0, eS 3 eStocked a0), (1, eS 3 ePartPromise a1), (2, eS 2 ePartCount a2), (9, .own 0 0 v11.length), (25, vi v7)] [some (.row 2 (List.map ePartCount v11))] ?_
      obtain ⟨c11, h⟩ := chk_some h
      refine jv (vi ((v7 + 1 : Nat) : Int)) (cy (I0 26 (.bin .add false (.t 25) (.c (.p (.int .i64 1)))))) (r_addn (i := v7) (j := 1) rfl rfl c11) rfl ?_
      refine jq 1 [(0, eS 3 eStocked a0), (1, eS 3 ePartPromise a1), (2, eS 2 ePartCount a2), (9, .own 0 0 v11.length), (10, vi ((v7 + 1 : Nat) : Int))] [some (.row 2 (List.map ePartCount v11))] ?_
      exact Vs.intro sy ⟨(v11, v7 + 1), rfl, h⟩
    intro k2 h
    refine TriE.block ?_
    refine sr [(0, eS 3 eStocked a0), (1, eS 3 ePartPromise a1), (2, eS 2 ePartCount a2), (9, .own 0 0 v6.length), (10, vi v7), (11, vi 0)] [some (.row 2 (List.map ePartCount v6))] ?_
    refine TriE.seqK h (fun (v10 : Int) => St.mk [(0, eS 3 eStocked a0), (1, eS 3 ePartPromise a1), (2, eS 2 ePartCount a2), (9, .own 0 0 v6.length), (10, vi v7), (11, vi v10)] [some (.row 2 (List.map ePartCount v6))]) ?_ ?_
    · rintro v10 h
      refine sj ?_
      refine rn 2 [(0, eS 3 eStocked a0), (1, eS 3 ePartPromise a1), (2, eS 2 ePartCount a2), (9, .own 0 0 v6.length), (10, vi v7), (11, vi v10), (49, eS 2 ePartCount a2), (50, vi v7)] [some (.row 2 (List.map ePartCount v6))] ?_
      refine jv (.fptr 2 (List.map ePartCount a2) v7 0) (cy (I0 51 (.iaddr 2 (.t 49) (.t 50)))) (ok_iaddr_m (j := v7) rfl rfl rfl c3) rfl ?_
      refine rn 1 [(0, eS 3 eStocked a0), (1, eS 3 ePartPromise a1), (2, eS 2 ePartCount a2), (9, .own 0 0 v6.length), (10, vi v7), (11, vi v10), (52, .fptr 2 (List.map ePartCount a2) v7 1)] [some (.row 2 (List.map ePartCount v6))] ?_
      refine jv (vi ((ix a2 v7).Count)) (cy (I0 53 (.load false 1 (.t 52)))) (ok_load_fm (v := vi ((ix a2 v7).Count)) rfl c3 rfl) rfl ?_
      refine jq 2 [(0, eS 3 eStocked a0), (1, eS 3 ePartPromise a1), (2, eS 2 ePartCount a2), (9, .own 0 0 v6.length), (10, vi v7), (11, vi v10), (55, vb (decide (v10 < ((ix a2 v7).Count))))] [some (.row 2 (List.map ePartCount v6))] ?_
      refine TriE.cond (b := decide (v10 < ((ix a2 v7).Count))) rfl (fun c8 => ?_) (fun c8 => ?_)
      · have h := cond_t h c8
        refine TriE.sees (Sees.less (fr' := [(0, eS 3 eStocked a0), (1, eS 3 ePartPromise a1), (2, eS 2 ePartCount a2), (9, .own 0 0 v6.length), (10, vi v7), (11, vi v10)]) (.cons rfl (.cons rfl (.cons rfl (.cons rfl (.cons rfl (.cons rfl .nil))))))) ?_
        refine TriE.draw (by kernel_rfl) ?_
        refine RegD.run 3 [(58, vi v7), (57, eS 2 ePartCount a2), (56, .own 0 0 v6.length), (0, eS 3 eStocked a0), (1, eS 3 ePartPromise a1), (2, eS 2 ePartCount a2), (9, .own 0 0 v6.length), (10, vi v7), (11, vi v10)] [some (.row 2 (List.map ePartCount v6)), none, none, none] (by kernel_rfl) ?_
        refine dv (.fptr 2 (List.map ePartCount a2) v7 0) (cy (I0 59 (.iaddr 2 (.t 57) (.t 58)))) (ok_iaddr_m (j := v7) rfl rfl rfl c3) rfl ?_
        refine RegD.run 1 [(60, .fptr 2 (List.map ePartCount a2) v7 0), (59, .fptr 2 (List.map ePartCount a2) v7 0), (58, vi v7), (57, eS 2 ePartCount a2), (56, .own 0 0 v6.length), (0, eS 3 eStocked a0), (1, eS 3 ePartPromise a1), (2, eS 2 ePartCount a2), (9, .own 0 0 v6.length), (10, vi v7), (11, vi v10)] [some (.row 2 (List.map ePartCount v6)), none, none, none, none, none] (by kernel_rfl) ?_
        refine dv (vt ((ix a2 v7).Part)) (cy (I0 61 (.load false 1 (.t 60)))) (ok_load_fm (v := vt ((ix a2 v7).Part)) rfl c3 rfl) rfl ?_
        refine RegD.run 2 [(63, vi v7), (62, eS 2 ePartCount a2), (61, vt ((ix a2 v7).Part)), (60, .fptr 2 (List.map ePartCount a2) v7 0), (59, .fptr 2 (List.map ePartCount a2) v7 0), (58, vi v7), (57, eS 2 ePartCount a2), (56, .own 0 0 v6.length), (0, eS 3 eStocked a0), (1, eS 3 ePartPromise a1), (2, eS 2 ePartCount a2), (9, .own 0 0 v6.length), (10, vi v7), (11, vi v10)] [some (.row 2 (List.map ePartCount v6)), none, none, none, none, none, none, none, none] (by kernel_rfl) ?_
        refine dv (.fptr 2 (List.map ePartCount a2) v7 0) (cy (I0 64 (.iaddr 2 (.t 62) (.t 63)))) (ok_iaddr_m (j := v7) rfl rfl rfl c3) rfl ?_
        refine RegD.run 1 [(65, .fptr 2 (List.map ePartCount a2) v7 1), (64, .fptr 2 (List.map ePartCount a2) v7 0), (63, vi v7), (62, eS 2 ePartCount a2), (61, vt ((ix a2 v7).Part)), (60, .fptr 2 (List.map ePartCount a2) v7 0), (59, .fptr 2 (List.map ePartCount a2) v7 0), (58, vi v7), (57, eS 2 ePartCount a2), (56, .own 0 0 v6.length), (0, eS 3 eStocked a0), (1, eS 3 ePartPromise a1), (2, eS 2 ePartCount a2), (9, .own 0 0 v6.length), (10, vi v7), (11, vi v10)] [some (.row 2 (List.map ePartCount v6)), none, none, none, none, none, none, none, none, none, none] (by kernel_rfl) ?_
        refine dv (vi ((ix a2 v7).Count)) (cy (I0 66 (.load false 1 (.t 65)))) (ok_load_fm (v := vi ((ix a2 v7).Count)) rfl c3 rfl) rfl ?_
        refine RegD.run 1 [(67, vi v10), (66, vi ((ix a2 v7).Count)), (65, .fptr 2 (List.map ePartCount a2) v7 1), (64, .fptr 2 (List.map ePartCount a2) v7 0), (63, vi v7), (62, eS 2 ePartCount a2), (61, vt ((ix a2 v7).Part)), (60, .fptr 2 (List.map ePartCount a2) v7 0), (59, .fptr 2 (List.map ePartCount a2) v7 0), (58, vi v7), (57, eS 2 ePartCount a2), (56, .own 0 0 v6.length), (0, eS 3 eStocked a0), (1, eS 3 ePartPromise a1), (2, eS 2 ePartCount a2), (9, .own 0 0 v6.length), (10, vi v7), (11, vi v10)] [some (.row 2 (List.map ePartCount v6)), none, none, none, none, none, none, none, none, none, none, none, none] (by kernel_rfl) ?_
        obtain ⟨c9, h⟩ := chk_some h
        refine dv (vi (((ix a2 v7).Count) - v10)) (cy (I0 68 (.bin .sub false (.t 66) (.t 67)))) (r_sub rfl rfl c9) rfl ?_
        refine RegD.run 2 [(70, .own 15 0 1), (69, .agg [vt ((ix a2 v7).Part), vi (((ix a2 v7).Count) - v10)]), (68, vi (((ix a2 v7).Count) - v10)), (67, vi v10), (66, vi ((ix a2 v7).Count)), (65, .fptr 2 (List.map ePartCount a2) v7 1), (64, .fptr 2 (List.map ePartCount a2) v7 0), (63, vi v7), (62, eS 2 ePartCount a2), (61, vt ((ix a2 v7).Part)), (60, .fptr 2 (List.map ePartCount a2) v7 0), (59, .fptr 2 (List.map ePartCount a2) v7 0), (58, vi v7), (57, eS 2 ePartCount a2), (56, .own 0 0 v6.length), (0, eS 3 eStocked a0), (1, eS 3 ePartPromise a1), (2, eS 2 ePartCount a2), (9, .own 0 0 v6.length), (10, vi v7), (11, vi v10)] [some (.row 2 (List.map ePartCount v6)), none, none, none, none, none, none, none, none, none, none, none, none, none, none, some (.row 2 [.agg [vt ((ix a2 v7).Part), vi (((ix a2 v7).Count) - v10)]])] (by kernel_rfl) ?_
        obtain ⟨c10, h⟩ := chk_some h
        refine de (.own 16 0 ((v6 ++ ([(PartCount.mk ((ix a2 v7).Part) (((ix a2 v7).Count) - v10))] : List PartCount)).length)) [none, none, none, none, none, none, none, none, none, none, none, none, none, none, none, some (.row 2 [.agg [vt ((ix a2 v7).Part), vi (((ix a2 v7).Count) - v10)]]), some (.row 2 (List.map ePartCount (v6 ++ ([(PartCount.mk ((ix a2 v7).Part) (((ix a2 v7).Count) - v10))] : List PartCount))))] (cy (I0 71 (.app 2 24 (.t 56) (.t 70)))) (ok_app_own (l := v6) (l2 := ([(PartCount.mk ((ix a2 v7).Part) (((ix a2 v7).Count) - v10))] : List PartCount)) (e := ePartCount) (u := .own 15 0 1) rfl rfl rfl rfl rfl c10) rfl rfl rfl ?_
        refine RegD.run 1 [(9, .own 16 0 ((v6 ++ ([(PartCount.mk ((ix a2 v7).Part) (((ix a2 v7).Count) - v10))] : List PartCount)).length)), (71, .own 16 0 ((v6 ++ ([(PartCount.mk ((ix a2 v7).Part) (((ix a2 v7).Count) - v10))] : List PartCount)).length)), (70, .own 15 0 1), (69, .agg [vt ((ix a2 v7).Part), vi (((ix a2 v7).Count) - v10)]), (68, vi (((ix a2 v7).Count) - v10)), (67, vi v10), (66, vi ((ix a2 v7).Count)), (65, .fptr 2 (List.map ePartCount a2) v7 1), (64, .fptr 2 (List.map ePartCount a2) v7 0), (63, vi v7), (62, eS 2 ePartCount a2), (61, vt ((ix a2 v7).Part)), (60, .fptr 2 (List.map ePartCount a2) v7 0), (59, .fptr 2 (List.map ePartCount a2) v7 0), (58, vi v7), (57, eS 2 ePartCount a2), (56, .own 0 0 v6.length), (0, eS 3 eStocked a0), (1, eS 3 ePartPromise a1), (2, eS 2 ePartCount a2), (9, .own 0 0 v6.length), (10, vi v7), (11, vi v10)] [none, none, none, none, none, none, none, none, none, none, none, none, none, none, none, some (.row 2 [.agg [vt ((ix a2 v7).Part), vi (((ix a2 v7).Count) - v10)]]), some (.row 2 (List.map ePartCount (v6 ++ ([(PartCount.mk ((ix a2 v7).Part) (((ix a2 v7).Count) - v10))] : List PartCount)))), none] (by kernel_rfl) ?_
        refine RegD.done rfl (by kernel_rfl) (S' := ⟨[(0, eS 3 eStocked a0), (1, eS 3 ePartPromise a1), (2, eS 2 ePartCount a2), (10, vi v7), (9, .own 0 0 ((v6 ++ ([(PartCount.mk ((ix a2 v7).Part) (((ix a2 v7).Count) - v10))] : List PartCount)).length))], [some (.row 2 (List.map ePartCount (v6 ++ ([(PartCount.mk ((ix a2 v7).Part) (((ix a2 v7).Count) - v10))] : List PartCount))))]⟩) (sc [16] (by decide) (by kernel_rfl) (obRen_row ePartCount_frz rfl .nil) rfl rfl) ?_
        exact Vs.intro sy ⟨(v6 ++ ([(PartCount.mk ((ix a2 v7).Part) (((ix a2 v7).Count) - v10))] : List PartCount)), rfl, h⟩
      have h := cond_f h c8
      refine TriE.skip ?_
      exact Vs.intro sy ⟨v6, rfl, h⟩
    intro k1 h
    refine sj ?_
    refine rn 3 [(0, eS 3 eStocked a0), (1, eS 3 ePartPromise a1), (2, eS 2 ePartCount a2), (9, .own 0 0 v6.length), (10, vi v7), (11, vi 0), (27, eS 3 eStocked a0), (28, eS 2 ePartCount a2), (29, vi v7)] [some (.row 2 (List.map ePartCount v6))] ?_
    refine jv (.fptr 2 (List.map ePartCount a2) v7 0) (cy (I0 30 (.iaddr 2 (.t 28) (.t 29)))) (ok_iaddr_m (j := v7) rfl rfl rfl c3) rfl ?_
    refine rn 1 [(0, eS 3 eStocked a0), (1, eS 3 ePartPromise a1), (2, eS 2 ePartCount a2), (9, .own 0 0 v6.length), (10, vi v7), (11, vi 0), (27, eS 3 eStocked a0), (31, .fptr 2 (List.map ePartCount a2) v7 0)] [some (.row 2 (List.map ePartCount v6))] ?_
    refine jv (vt ((ix a2 v7).Part)) (cy (I0 32 (.load false 1 (.t 31)))) (ok_load_fm (v := vt ((ix a2 v7).Part)) rfl c3 rfl) rfl ?_
    obtain ⟨y8, hy8, h⟩ := bind_some h
    refine RegJ.op (Op1.call (y' := vi y8) (obx := []) (oby := []) (ob2 := [some (.row 2 (List.map ePartCount v6))]) _ _ (cy (I0 33 (.call 74 [(.t 27), (.t 32)]))) rfl (agrafferef08_FindStock_ok n a0 ((ix a2 v7).Part) y8 hy8) [] (by kernel_rfl) (.cons rfl (.cons rfl (.cons rfl .nil))) (by kernel_rfl) (by kernel_rfl) ObsRen.nil (by kernel_rfl) ObsRen.nil (by kernel_rfl)) ?_
    refine jq 1 [(0, eS 3 eStocked a0), (1, eS 3 ePartPromise a1), (2, eS 2 ePartCount a2), (9, .own 0 0 v6.length), (10, vi v7), (11, vi 0), (12, vi y8)] [some (.row 2 (List.map ePartCount v6))] ?_
    refine sr [(0, eS 3 eStocked a0), (1, eS 3 ePartPromise a1), (2, eS 2 ePartCount a2), (9, .own 0 0 v6.length), (10, vi v7), (11, vi 0), (12, vi y8), (35, vb (decide ((0 : Int) ≤ y8)))] [some (.row 2 (List.map ePartCount v6))] ?_
    refine TriE.cond (b := decide ((0 : Int) ≤ y8)) rfl (fun c4 => ?_) (fun c4 => ?_)
    · have h := cond_t h c4
      refine TriE.sees (Sees.less (fr' := [(0, eS 3 eStocked a0), (1, eS 3 ePartPromise a1), (2, eS 2 ePartCount a2), (9, .own 0 0 v6.length), (10, vi v7), (11, vi 0), (12, vi y8)]) (.cons rfl (.cons rfl (.cons rfl (.cons rfl (.cons rfl (.cons rfl (.cons rfl .nil)))))))) ?_
      refine TriE.draw (by kernel_rfl) ?_
      refine RegD.run 2 [(37, vi y8), (36, eS 3 eStocked a0), (0, eS 3 eStocked a0), (1, eS 3 ePartPromise a1), (2, eS 2 ePartCount a2), (9, .own 0 0 v6.length), (10, vi v7), (11, vi 0), (12, vi y8)] [some (.row 2 (List.map ePartCount v6)), none, none] (by kernel_rfl) ?_
      obtain ⟨c5, h⟩ := chk_some h
      refine dv (.fptr 3 (List.map eStocked a0) y8.toNat 0) (cy (I0 38 (.iaddr 3 (.t 36) (.t 37)))) (ok_iaddr_m (j := y8.toNat) rfl rfl (inB_to c5) (inB_lt c5)) rfl ?_
      refine RegD.run 1 [(39, .fptr 3 (List.map eStocked a0) y8.toNat 2), (38, .fptr 3 (List.map eStocked a0) y8.toNat 0), (37, vi y8), (36, eS 3 eStocked a0), (0, eS 3 eStocked a0), (1, eS 3 ePartPromise a1), (2, eS 2 ePartCount a2), (9, .own 0 0 v6.length), (10, vi v7), (11, vi 0), (12, vi y8)] [some (.row 2 (List.map ePartCount v6)), none, none, none, none] (by kernel_rfl) ?_
      obtain ⟨c6, h⟩ := chk_some h
      refine dv (vi ((ix a0 y8.toNat).Count)) (cy (I0 40 (.load false 1 (.t 39)))) (ok_load_fm (v := vi ((ix a0 y8.toNat).Count)) rfl c6 rfl) rfl ?_
      refine RegD.run 3 [(43, vi v7), (42, eS 2 ePartCount a2), (41, eS 3 ePartPromise a1), (40, vi ((ix a0 y8.toNat).Count)), (39, .fptr 3 (List.map eStocked a0) y8.toNat 2), (38, .fptr 3 (List.map eStocked a0) y8.toNat 0), (37, vi y8), (36, eS 3 eStocked a0), (0, eS 3 eStocked a0), (1, eS 3 ePartPromise a1), (2, eS 2 ePartCount a2), (9, .own 0 0 v6.length), (10, vi v7), (11, vi 0), (12, vi y8)] [some (.row 2 (List.map ePartCount v6)), none, none, none, none, none, none, none, none] (by kernel_rfl) ?_
      refine dv (.fptr 2 (List.map ePartCount a2) v7 0) (cy (I0 44 (.iaddr 2 (.t 42) (.t 43)))) (ok_iaddr_m (j := v7) rfl rfl rfl c3) rfl ?_
      refine RegD.run 1 [(45, .fptr 2 (List.map ePartCount a2) v7 0), (44, .fptr 2 (List.map ePartCount a2) v7 0), (43, vi v7), (42, eS 2 ePartCount a2), (41, eS 3 ePartPromise a1), (40, vi ((ix a0 y8.toNat).Count)), (39, .fptr 3 (List.map eStocked a0) y8.toNat 2), (38, .fptr 3 (List.map eStocked a0) y8.toNat 0), (37, vi y8), (36, eS 3 eStocked a0), (0, eS 3 eStocked a0), (1, eS 3 ePartPromise a1), (2, eS 2 ePartCount a2), (9, .own 0 0 v6.length), (10, vi v7), (11, vi 0), (12, vi y8)] [some (.row 2 (List.map ePartCount v6)), none, none, none, none, none, none, none, none, none, none] (by kernel_rfl) ?_
      refine dv (vt ((ix a2 v7).Part)) (cy (I0 46 (.load false 1 (.t 45)))) (ok_load_fm (v := vt ((ix a2 v7).Part)) rfl c3 rfl) rfl ?_
      obtain ⟨y9, hy9, h⟩ := bind_some h
      refine RegD.op (OpD.call (y' := vi y9) (obx := []) (oby := []) (ob2 := [some (.row 2 (List.map ePartCount v6)), none, none, none, none, none, none, none, none, none, none, none, none]) (tch := []) 0 _ _ (cy (I0 47 (.call 109 [(.t 41), (.t 46)]))) (agrafferef08_promised_ok n a1 ((ix a2 v7).Part) y9 hy9) [] (by kernel_rfl) (.cons rfl (.cons rfl (.cons rfl .nil))) (by kernel_rfl) (by kernel_rfl) ObsRen.nil (by kernel_rfl) ObsRen.nil (by kernel_rfl) rfl (.inr ⟨rfl, rfl⟩)) ?_
      obtain ⟨c7, h⟩ := chk_some h
      refine dv (vi (((ix a0 y8.toNat).Count) - y9)) (cy (I0 48 (.bin .sub false (.t 40) (.t 47)))) (r_sub rfl rfl c7) rfl ?_
      refine RegD.run 1 [(11, vi (((ix a0 y8.toNat).Count) - y9)), (48, vi (((ix a0 y8.toNat).Count) - y9)), (47, vi y9), (46, vt ((ix a2 v7).Part)), (45, .fptr 2 (List.map ePartCount a2) v7 0), (44, .fptr 2 (List.map ePartCount a2) v7 0), (43, vi v7), (42, eS 2 ePartCount a2), (41, eS 3 ePartPromise a1), (40, vi ((ix a0 y8.toNat).Count)), (39, .fptr 3 (List.map eStocked a0) y8.toNat 2), (38, .fptr 3 (List.map eStocked a0) y8.toNat 0), (37, vi y8), (36, eS 3 eStocked a0), (0, eS 3 eStocked a0), (1, eS 3 ePartPromise a1), (2, eS 2 ePartCount a2), (9, .own 0 0 v6.length), (10, vi v7), (11, vi 0), (12, vi y8)] [some (.row 2 (List.map ePartCount v6)), none, none, none, none, none, none, none, none, none, none, none, none, none, none] (by kernel_rfl) ?_
      refine RegD.done rfl (by kernel_rfl) (S' := ⟨[(0, eS 3 eStocked a0), (1, eS 3 ePartPromise a1), (2, eS 2 ePartCount a2), (9, .own 0 0 v6.length), (10, vi v7), (11, vi (((ix a0 y8.toNat).Count) - y9))], [some (.row 2 (List.map ePartCount v6))]⟩) (sc [0] (by decide) (by kernel_rfl) (obRen_row ePartCount_frz rfl .nil) rfl rfl) ?_
      exact Vs.intro Sees.refl ⟨(((ix a0 y8.toNat).Count) - y9), rfl, h⟩
    have h := cond_f h c4
    refine TriE.skip ?_
    exact Vs.intro sy ⟨0, rfl, h⟩
  have h := cond_f h c3
  refine TriE.exit ?_
  exact Vs.intro sy ⟨v6, rfl, h⟩
theorem agraffelaw08_sameCounts_ok (n : Nat) (a0 : List PartCount) (a1 : List PartCount) (r : Bool) (h : agraffelaw08_sameCounts n a0 a1 = some r) : FnL Tryz.prog 45 [eS 2 ePartCount a0, eS 2 ePartCount a1] [] (vb r) [] := by
  dsimp only [agraffelaw08_sameCounts] at h
  refine FnL.ofS (ts := [4]) Tryz.call45 Tryz.func45 rfl rfl (Nat.le_of_ble_eq_true rfl) (Nat.le_of_ble_eq_true rfl) (fun j h => absurd h (Nat.not_lt_zero j)) ?_
  refine sr [(0, eS 2 ePartCount a0), (1, eS 2 ePartCount a1)] [] ?_
  refine TriE.seq ?_
  refine sj ?_
  refine rn 1 [(0, eS 2 ePartCount a0), (1, eS 2 ePartCount a1), (6, eS 2 ePartCount a0)] [] ?_
  refine jv (vi (a0.length : Int)) (cy (I0 7 (.len 0 (.t 6)))) (ok_len_m rfl) rfl ?_
  refine rn 1 [(0, eS 2 ePartCount a0), (1, eS 2 ePartCount a1), (7, vi (a0.length : Int)), (8, eS 2 ePartCount a1)] [] ?_
  refine jv (vi (a1.length : Int)) (cy (I0 9 (.len 0 (.t 8)))) (ok_len_m rfl) rfl ?_
  refine jv (vb (!decide (a0.length = a1.length))) (cy (I0 10 (.bin .neq false (.t 7) (.t 9)))) (n_neq (i := a0.length) (j := a1.length) rfl rfl) rfl ?_
  refine jp [(0, eS 2 ePartCount a0), (1, eS 2 ePartCount a1), (10, vb (!decide (a0.length = a1.length)))] ?_
  refine TriE.cond (b := !decide (a0.length = a1.length)) rfl (fun c1 => ?_) (fun c1 => ?_)
  · have h := cond_t h c1
    refine sr [(4, vb false)] [] ?_
    refine TriE.ret ?_
    have h := Option.some.inj h
    subst h
    exact DoneS.ret (S' := ⟨[(4, vb false)], []⟩) Sees.refl rfl rfl
  have h := cond_f h c1
  refine TriE.skip ?_
  refine TriE.seqK h (fun (_ : Unit) => St.mk [] []) ?_ ?_
  · rintro ⟨⟩ h
    refine sr [(4, vb true)] [] ?_
    refine TriE.ret ?_
    have h := Option.some.inj h
    subst h
    exact DoneS.ret (S' := ⟨[(4, vb true)], []⟩) Sees.refl rfl rfl
  intro k1 h
  refine sr [(0, eS 2 ePartCount a0), (1, eS 2 ePartCount a1), (5, vi 0)] [] ?_
  refine TriE.block ?_
  refine TriE.sees (S' := ⟨[(0, eS 2 ePartCount a0), (1, eS 2 ePartCount a1), (5, vi 0)], []⟩) sy ?_
  refine TriE.loopN h (fun (v1 : Nat) => St.mk [(0, eS 2 ePartCount a0), (1, eS 2 ePartCount a1), (5, vi v1)] []) rfl ?_
  clear h
  rintro back v1 h
  dsimp only [agraffelaw08_sameCounts_L1] at h
  refine TriE.seq ?_
  refine sj ?_
  refine rn 2 [(0, eS 2 ePartCount a0), (1, eS 2 ePartCount a1), (5, vi v1), (11, vi v1), (12, eS 2 ePartCount a0)] [] ?_
  refine jv (vi (a0.length : Int)) (cy (I0 13 (.len 0 (.t 12)))) (ok_len_m rfl) rfl ?_
  refine jv (vb (decide (v1 < a0.length))) (cy (I0 14 (.bin .lss false (.t 11) (.t 13)))) (n_lss (i := v1) (j := a0.length) rfl rfl) rfl ?_
  refine jp [(0, eS 2 ePartCount a0), (1, eS 2 ePartCount a1), (5, vi v1), (14, vb (decide (v1 < a0.length)))] ?_
  refine TriE.cond (b := decide (v1 < a0.length)) rfl (fun c2 => ?_) (fun c2 => ?_)
  · have h := cond_t h c2
    refine TriE.skip ?_
    refine TriE.seq ?_
    refine TriE.block ?_
    refine TriE.seq ?_
    refine TriE.sees (Sees.less (fr' := [(0, eS 2 ePartCount a0), (1, eS 2 ePartCount a1), (5, vi v1)]) (.cons rfl (.cons rfl (.cons rfl .nil)))) ?_
    refine TriE.draw (by kernel_rfl) ?_
    refine RegD.run 2 [(18, vi v1), (17, eS 2 ePartCount a0), (0, eS 2 ePartCount a0), (1, eS 2 ePartCount a1), (5, vi v1)] [none, none] (by kernel_rfl) ?_
    refine dv (.fptr 2 (List.map ePartCount a0) v1 0) (cy (I0 19 (.iaddr 2 (.t 17) (.t 18)))) (ok_iaddr_m (j := v1) rfl rfl rfl c2) rfl ?_
    refine dv (.agg [vt ((ix a0 v1).Part), vi ((ix a0 v1).Count)]) (cy (I0 20 (.load true 2 (.t 19)))) (ok_load_fm (v := .agg [vt ((ix a0 v1).Part), vi ((ix a0 v1).Count)]) rfl c2 rfl) rfl ?_
    refine RegD.run 2 [(22, vi v1), (21, eS 2 ePartCount a1), (20, .agg [vt ((ix a0 v1).Part), vi ((ix a0 v1).Count)]), (19, .fptr 2 (List.map ePartCount a0) v1 0), (18, vi v1), (17, eS 2 ePartCount a0), (0, eS 2 ePartCount a0), (1, eS 2 ePartCount a1), (5, vi v1)] [none, none, none, none, none, none] (by kernel_rfl) ?_
    obtain ⟨c3, h⟩ := chk_some h
    refine dv (.fptr 2 (List.map ePartCount a1) v1 0) (cy (I0 23 (.iaddr 2 (.t 21) (.t 22)))) (ok_iaddr_m (j := v1) rfl rfl rfl c3) rfl ?_
    refine dv (.agg [vt ((ix a1 v1).Part), vi ((ix a1 v1).Count)]) (cy (I0 24 (.load true 2 (.t 23)))) (ok_load_fm (v := .agg [vt ((ix a1 v1).Part), vi ((ix a1 v1).Count)]) rfl c3 rfl) rfl ?_
    refine RegD.op (OpD.aggeq (cs := [vt ((ix a0 v1).Part), vi ((ix a0 v1).Count)]) (ds := [vt ((ix a1 v1).Part), vi ((ix a1 v1).Count)]) (b := (((ix a0 v1).Part) == ((ix a1 v1).Part)) && ((((ix a0 v1).Count) == ((ix a1 v1).Count)) && true)) true (cy (I0 25 (.bin .neq false (.t 20) (.t 24)))) rfl rfl rfl (by kernel_rfl) (.cons rfl (.cons rfl .nil))) ?_
    refine RegD.done rfl (by kernel_rfl) (S' := ⟨[(0, eS 2 ePartCount a0), (1, eS 2 ePartCount a1), (5, vi v1), (25, vb (!((((ix a0 v1).Part) == ((ix a1 v1).Part)) && ((((ix a0 v1).Count) == ((ix a1 v1).Count)) && true))))], []⟩) (sc [] (by decide) (by kernel_rfl) ObRen.nil rfl rfl) ?_
    refine TriE.cond (b := (!((((ix a0 v1).Part) == ((ix a1 v1).Part)) && ((((ix a0 v1).Count) == ((ix a1 v1).Count)) && true)))) rfl (fun c4 => ?_) (fun c4 => ?_)
    · have h := cond_t h c4
      refine sr [(4, vb false)] [] ?_
      refine TriE.ret ?_
      have h := Option.some.inj h
      subst h
      exact DoneS.ret (S' := ⟨[(4, vb false)], []⟩) Sees.refl rfl rfl
    have h := cond_f h c4
    refine TriE.skip ?_
    refine TriE.regJ ?_
    refine rn 1 [(0, eS 2 ePartCount a0), (1, eS 2 ePartCount a1), (15, vi v1)] [] ?_
    obtain ⟨c5, h⟩ := chk_some h
    refine jv (vi ((v1 + 1 : Nat) : Int)) (cy (I0 16 (.bin .add false (.t 15) (.c (.p (.int .i64 1)))))) (r_addn (i := v1) (j := 1) rfl rfl c5) rfl ?_
    refine jq 1 [(0, eS 2 ePartCount a0), (1, eS 2 ePartCount a1), (5, vi ((v1 + 1 : Nat) : Int))] [] ?_
    exact Vs.intro sy ⟨(v1 + 1), rfl, h⟩
  have h := cond_f h c2
  refine TriE.exit ?_
  exact Vs.intro sy ⟨(), rfl, h⟩
theorem agraffelaw08_RestoreMissing_ok (n : Nat) (a0 : List Stocked) (a1 : List PartPromise) (a2 : List PartCount) (r : Bool) (h : agraffelaw08_RestoreMissing n a0 a1 a2 = some r) : FnL Tryz.prog 6 [eS 3 eStocked a0, eS 3 ePartPromise a1, eS 2 ePartCount a2] [] (vb r) [] := by
  dsimp only [agraffelaw08_RestoreMissing] at h
  refine FnL.ofS (ts := [6]) Tryz.call6 Tryz.func6 rfl rfl (Nat.le_of_ble_eq_true rfl) (Nat.le_of_ble_eq_true rfl) (fun j h => absurd h (Nat.not_lt_zero j)) ?_
  refine sr [(0, eS 3 eStocked a0), (1, eS 3 ePartPromise a1), (2, eS 2 ePartCount a2)] [] ?_
  refine TriE.seq ?_
  refine sj ?_
  obtain ⟨y1, hy1, h⟩ := bind_some h
  refine RegJ.op (Op1.call (y' := vb y1) (obx := []) (oby := []) (ob2 := []) _ _ (cy (I0 13 (.call 14 []))) rfl (agraffelaw08_awake_ok n y1 hy1) [] (by kernel_rfl) (.cons rfl .nil) (by kernel_rfl) (by kernel_rfl) ObsRen.nil (by kernel_rfl) ObsRen.nil (by kernel_rfl)) ?_
  refine jq 1 [(0, eS 3 eStocked a0), (1, eS 3 ePartPromise a1), (2, eS 2 ePartCount a2), (14, vb (!y1))] [] ?_
  refine TriE.cond (b := !y1) rfl (fun c1 => ?_) (fun c1 => ?_)
  · have h := cond_t h c1
    refine sr [(6, vb false)] [] ?_
    refine TriE.ret ?_
    have h := Option.some.inj h
    subst h
    exact DoneS.ret (S' := ⟨[(6, vb false)], []⟩) Sees.refl rfl rfl
  have h := cond_f h c1
  refine TriE.skip ?_
  refine TriE.seq ?_
  refine sj ?_
  refine rn 1 [(0, eS 3 eStocked a0), (1, eS 3 ePartPromise a1), (2, eS 2 ePartCount a2), (15, eS 3 eStocked a0)] [] ?_
  obtain ⟨y2, hy2, h⟩ := bind_some h
  refine RegJ.op (Op1.call (y' := vb y2) (obx := []) (oby := []) (ob2 := []) _ _ (cy (I0 16 (.call 16 [(.t 15)]))) rfl (agraffelaw08_stocked_ok n a0 y2 hy2) [] (by kernel_rfl) (.cons rfl (.cons rfl .nil)) (by kernel_rfl) (by kernel_rfl) ObsRen.nil (by kernel_rfl) ObsRen.nil (by kernel_rfl)) ?_
  refine rn 2 [(0, eS 3 eStocked a0), (1, eS 3 ePartPromise a1), (2, eS 2 ePartCount a2), (18, vb (!y2))] [] ?_
  refine RegJ.op (Op1.valk (v := eS 3 ePartPromise a1) _ _ (cy (IG 19 (.mov (.t 1)) 18 false)) rfl (by kernel_rfl) (fun hg => (.cons rfl .nil))) ?_
  obtain ⟨y3, hy3, h⟩ := bind_some h
  refine RegJ.op (Op1.callg (g := !(!y2)) (y' := vb y3) (obx := []) _ _ (cy (IG 20 (.call 40 [(.t 19)]) 18 false)) rfl (fun hg => agraffelaw08_promised_ok n a1 y3 (gcall_some hy3 hg)) [] (fun hg => by kernel_rfl) (fun hg => (.cons rfl (.cons hg .nil))) (by kernel_rfl) (by kernel_rfl) ObsRen.nil (by kernel_rfl) (by kernel_rfl)) ?_
  refine RegJ.op (Op1.valk (v := vb (!y3)) _ _ (cy (IG 21 (.un .not (.t 20)) 18 false)) rfl (by kernel_rfl) (fun hg => (.cons hg .nil))) ?_
  refine RegJ.op (Op1.or (cy (I0 22 (.pick (.t 18) (.c (.p (.bool true))) (.t 21)))) rfl rfl (by first | exact hokO1 | exact hokO0 | simp)) ?_
  refine rn 1 [(0, eS 3 eStocked a0), (1, eS 3 ePartPromise a1), (2, eS 2 ePartCount a2), (23, vb ((!y2) || (!y3)))] [] ?_
  refine RegJ.op (Op1.valk (v := eS 2 ePartCount a2) _ _ (cy (IG 24 (.mov (.t 2)) 23 false)) rfl (by kernel_rfl) (fun hg => (.cons rfl .nil))) ?_
  refine RegJ.op (Op1.valg (v := vi (a2.length : Int)) _ _ (cy (IG 25 (.len 0 (.t 24)) 23 false)) rfl (fun hg => (ok_len_m rfl)) (fun hg => (.cons hg .nil))) ?_
  refine RegJ.op (Op1.valg (v := vb (decide (8 < a2.length))) _ _ (cy (IG 26 (.bin .gtr false (.t 25) (.c (.p (.int .i64 8)))) 23 false)) rfl (fun hg => (n_gtr (i := a2.length) (j := 8) rfl rfl)) (fun hg => (.cons hg (.cons rfl .nil)))) ?_
  refine RegJ.op (Op1.valk (v := vb (decide (8 < a2.length))) _ _ (cy (IG 27 (.mov (.t 26)) 23 false)) rfl (by kernel_rfl) (fun hg => (.cons hg .nil))) ?_
  refine RegJ.op (Op1.valk (v := eS 2 ePartCount a2) _ _ (cy (IG 28 (.mov (.t 2)) 27 true)) rfl (by kernel_rfl) (fun hg => (.cons rfl .nil))) ?_
  refine RegJ.op (Op1.valg (v := vi (a2.length : Int)) _ _ (cy (IG 29 (.len 0 (.t 28)) 27 true)) rfl (fun hg => (ok_len_m rfl)) (fun hg => (.cons hg .nil))) ?_
  refine RegJ.op (Op1.valg (v := vb (decide (a2.length ≤ 60))) _ _ (cy (IG 30 (.bin .leq false (.t 29) (.c (.p (.int .i64 60)))) 27 true)) rfl (fun hg => (n_leq (i := a2.length) (j := 60) rfl rfl)) (fun hg => (.cons hg (.cons rfl .nil)))) ?_
  refine RegJ.op (Op1.andg (g := !((!y2) || (!y3))) (cy (IG 31 (.pick (.t 27) (.t 30) (.c (.p (.bool false)))) 23 false)) rfl rfl rfl (fun hg => by first | exact hokA2 hg | exact hokA3 hg | exact hokA1 | exact hokA0 | (rw [hg]; simp) | simp_all)) ?_
  refine RegJ.op (Op1.or (cy (I0 32 (.pick (.t 23) (.c (.p (.bool true))) (.t 31)))) rfl rfl (by first | exact hokO1 | exact hokO0 | simp)) ?_
  refine rn 1 [(0, eS 3 eStocked a0), (1, eS 3 ePartPromise a1), (2, eS 2 ePartCount a2), (33, vb (((!y2) || (!y3)) || ((decide (8 < a2.length)) && (decide (a2.length ≤ 60)))))] [] ?_
  refine RegJ.op (Op1.valk (v := eS 2 ePartCount a2) _ _ (cy (IG 34 (.mov (.t 2)) 33 false)) rfl (by kernel_rfl) (fun hg => (.cons rfl .nil))) ?_
  refine RegJ.op (Op1.valg (v := vi (a2.length : Int)) _ _ (cy (IG 35 (.len 0 (.t 34)) 33 false)) rfl (fun hg => (ok_len_m rfl)) (fun hg => (.cons hg .nil))) ?_
  refine RegJ.op (Op1.valg (v := vb (decide (63 < a2.length))) _ _ (cy (IG 36 (.bin .gtr false (.t 35) (.c (.p (.int .i64 63)))) 33 false)) rfl (fun hg => (n_gtr (i := a2.length) (j := 63) rfl rfl)) (fun hg => (.cons hg (.cons rfl .nil)))) ?_
  refine RegJ.op (Op1.or (cy (I0 37 (.pick (.t 33) (.c (.p (.bool true))) (.t 36)))) rfl rfl (by first | exact hokO1 | exact hokO0 | simp)) ?_
  refine jp [(0, eS 3 eStocked a0), (1, eS 3 ePartPromise a1), (2, eS 2 ePartCount a2), (37, vb ((((!y2) || (!y3)) || ((decide (8 < a2.length)) && (decide (a2.length ≤ 60)))) || (decide (63 < a2.length))))] ?_
  refine TriE.cond (b := (((!y2) || (!y3)) || ((decide (8 < a2.length)) && (decide (a2.length ≤ 60)))) || (decide (63 < a2.length))) rfl (fun c2 => ?_) (fun c2 => ?_)
  · have h := cond_t h c2
    refine sr [(6, vb true)] [] ?_
    refine TriE.ret ?_
    have h := Option.some.inj h
    subst h
    exact DoneS.ret (S' := ⟨[(6, vb true)], []⟩) Sees.refl rfl rfl
  have h := cond_f h c2
  refine TriE.skip ?_
  refine TriE.seqK h (fun (_ : Unit) => St.mk [(0, eS 3 eStocked a0), (1, eS 3 ePartPromise a1), (2, eS 2 ePartCount a2)] []) ?_ ?_
  · rintro ⟨⟩ h
    refine sj ?_
    refine rn 1 [(0, eS 3 eStocked a0), (1, eS 3 ePartPromise a1), (2, eS 2 ePartCount a2), (52, eS 3 eStocked a0)] [] ?_
    obtain ⟨y5, hy5, h⟩ := bind_some h
    refine RegJ.op (Op1.call (y' := eS 3 eStocked a0) (obx := []) (oby := []) (ob2 := []) _ _ (cy (I0 53 (.call 23 [(.t 52)]))) rfl (agraffelaw08_stock_ok n a0 y5 hy5) [] (by kernel_rfl) (.cons rfl (.cons rfl .nil)) (by kernel_rfl) (by kernel_rfl) ObsRen.nil (by kernel_rfl) ObsRen.nil (by kernel_rfl)) ?_
    refine rn 1 [(0, eS 3 eStocked a0), (1, eS 3 ePartPromise a1), (2, eS 2 ePartCount a2), (53, eS 3 eStocked a0), (54, eS 3 ePartPromise a1)] [] ?_
    obtain ⟨y6, hy6, h⟩ := bind_some h
    refine RegJ.op (Op1.call (y' := eS 3 ePartPromise a1) (obx := []) (oby := []) (ob2 := []) _ _ (cy (I0 55 (.call 42 [(.t 54)]))) rfl (agraffelaw08_promises_ok n a1 y6 hy6) [] (by kernel_rfl) (.cons rfl (.cons rfl .nil)) (by kernel_rfl) (by kernel_rfl) ObsRen.nil (by kernel_rfl) ObsRen.nil (by kernel_rfl)) ?_
    refine rn 2 [(0, eS 3 eStocked a0), (1, eS 3 ePartPromise a1), (2, eS 2 ePartCount a2), (53, eS 3 eStocked a0), (55, eS 3 ePartPromise a1), (56, .emp), (57, eS 2 ePartCount a2)] [] ?_
    obtain ⟨c6, h⟩ := chk_some h
    refine je (.own 0 0 a2.length) [some (.row 2 (List.map ePartCount a2))] (cy (I0 58 (.app 2 24 (.t 56) (.t 57)))) (ok_app_emp (e := ePartCount) (l := a2) (u := eS 2 ePartCount a2) rfl rfl els_sl c6) rfl rfl rfl ?_
    refine RegJ.sees (Sees.freeze 0 (fr' := [(0, eS 3 eStocked a0), (1, eS 3 ePartPromise a1), (2, eS 2 ePartCount a2), (53, eS 3 eStocked a0), (55, eS 3 ePartPromise a1), (56, .emp), (57, eS 2 ePartCount a2), (58, eS 2 ePartCount a2)]) (ob' := [none]) rfl (frz_row ePartCount_frzE _) (.cons (.refl _) (.cons (.refl _) (.cons (.refl _) (.cons (.refl _) (.cons (.refl _) (.cons (.refl _) (.cons (.refl _) (.cons (frz_full rfl) .nil)))))))) rfl) ?_
    obtain ⟨y7, hy7, h⟩ := bind_some h
    refine RegJ.op (Op1.call (y' := .tup [eS 2 ePartCount y7.2, vi y7.1]) (obx := []) (oby := []) (ob2 := [none]) _ _ (cy (I0 59 (.call 41 [(.t 53), (.t 55), (.t 58)]))) rfl (restore_MissingParts_ok n a0 a1 a2 y7 hy7) [] (by kernel_rfl) (.cons rfl (.cons rfl (.cons rfl (.cons rfl .nil)))) (by kernel_rfl) (by kernel_rfl) ObsRen.nil (by kernel_rfl) ObsRen.nil (by kernel_rfl)) ?_
    refine jq 5 [(0, eS 3 eStocked a0), (1, eS 3 ePartPromise a1), (2, eS 2 ePartCount a2), (8, eS 2 ePartCount y7.2), (9, vi y7.1)] [none] ?_
    refine TriE.seq ?_
    refine sj ?_
    refine rn 2 [(0, eS 3 eStocked a0), (1, eS 3 ePartPromise a1), (2, eS 2 ePartCount a2), (8, eS 2 ePartCount y7.2), (9, vi y7.1), (62, eS 3 eStocked a0), (63, eS 3 ePartPromise a1)] [none] ?_
    obtain ⟨y8, hy8, h⟩ := bind_some h
    refine RegJ.op (Op1.call (y' := vi y8) (obx := []) (oby := []) (ob2 := [none]) _ _ (cy (I0 64 (.call 43 [(.t 62), (.t 63)]))) rfl (agrafferef08_CheckPromises_ok n a0 a1 y8 hy8) [] (by kernel_rfl) (.cons rfl (.cons rfl (.cons rfl .nil))) (by kernel_rfl) (by kernel_rfl) ObsRen.nil (by kernel_rfl) ObsRen.nil (by kernel_rfl)) ?_
    refine jq 1 [(0, eS 3 eStocked a0), (1, eS 3 ePartPromise a1), (2, eS 2 ePartCount a2), (8, eS 2 ePartCount y7.2), (9, vi y7.1), (10, vi y8)] [none] ?_
    refine sr [(0, eS 3 eStocked a0), (1, eS 3 ePartPromise a1), (2, eS 2 ePartCount a2), (8, eS 2 ePartCount y7.2), (9, vi y7.1), (10, vi y8), (66, vb (y8 != (0 : Int)))] [none] ?_
    refine TriE.cond (b := (y8 != (0 : Int))) rfl (fun c7 => ?_) (fun c7 => ?_)
    · have h := cond_t h c7
      refine sj ?_
      refine rn 4 [(8, eS 2 ePartCount y7.2), (70, vb (y7.1 == y8))] [none] ?_
      refine RegJ.op (Op1.valk (v := eS 2 ePartCount y7.2) _ _ (cy (IG 71 (.mov (.t 8)) 70 true)) rfl (by kernel_rfl) (fun hg => (.cons rfl .nil))) ?_
      refine RegJ.op (Op1.valg (v := vi ((y7.2.length : Nat) : Int)) _ _ (cy (IG 72 (.len 0 (.t 71)) 70 true)) rfl (fun hg => (ok_len_m rfl)) (fun hg => (.cons hg .nil))) ?_
      refine RegJ.op (Op1.valg (v := vb (decide (y7.2.length = 0))) _ _ (cy (IG 73 (.bin .eql false (.t 72) (.c (.p (.int .i64 0)))) 70 true)) rfl (fun hg => (n_eql (i := y7.2.length) (j := 0) rfl rfl)) (fun hg => (.cons hg (.cons rfl .nil)))) ?_
      refine RegJ.op (Op1.and (cy (I0 74 (.pick (.t 70) (.t 73) (.c (.p (.bool false)))))) rfl rfl (by first | exact hokA1 | exact hokA0 | simp)) ?_
      refine jq 1 [(6, vb ((y7.1 == y8) && (decide (y7.2.length = 0))))] [none] ?_
      refine TriE.ret ?_
      have h := Option.some.inj h
      subst h
      exact DoneS.ret (S' := ⟨[(6, vb ((y7.1 == y8) && (decide (y7.2.length = 0))))], []⟩) (sc [] (by decide) (by kernel_rfl) ObRen.nil rfl rfl) rfl rfl
    have h := cond_f h c7
    refine TriE.skip ?_
    refine sj ?_
    refine rn 3 [(8, eS 2 ePartCount y7.2), (9, vi y7.1), (76, eS 3 eStocked a0), (77, eS 3 ePartPromise a1), (78, eS 2 ePartCount a2)] [none] ?_
    obtain ⟨y9, hy9, h⟩ := bind_some h
    refine RegJ.op (Op1.call (y' := .tup [eS 2 ePartCount y9.2, vi y9.1]) (obx := []) (oby := []) (ob2 := [none]) _ _ (cy (I0 79 (.call 44 [(.t 76), (.t 77), (.t 78)]))) rfl (agrafferef08_MissingParts_ok n a0 a1 a2 y9 hy9) [] (by kernel_rfl) (.cons rfl (.cons rfl (.cons rfl (.cons rfl .nil)))) (by kernel_rfl) (by kernel_rfl) ObsRen.nil (by kernel_rfl) ObsRen.nil (by kernel_rfl)) ?_
    refine jq 5 [(8, eS 2 ePartCount y7.2), (9, vi y7.1), (11, eS 2 ePartCount y9.2), (12, vi y9.1)] [none] ?_
    refine sj ?_
    refine rn 4 [(8, eS 2 ePartCount y7.2), (11, eS 2 ePartCount y9.2), (85, vb (y7.1 == y9.1))] [none] ?_
    refine RegJ.op (Op1.valk (v := eS 2 ePartCount y7.2) _ _ (cy (IG 86 (.mov (.t 8)) 85 true)) rfl (by kernel_rfl) (fun hg => (.cons rfl .nil))) ?_
    refine RegJ.op (Op1.valk (v := eS 2 ePartCount y9.2) _ _ (cy (IG 87 (.mov (.t 11)) 85 true)) rfl (by kernel_rfl) (fun hg => (.cons rfl .nil))) ?_
    obtain ⟨y10, hy10, h⟩ := bind_some h
    refine RegJ.op (Op1.callg (g := (y7.1 == y9.1)) (y' := vb y10) (obx := []) _ _ (cy (IG 88 (.call 45 [(.t 86), (.t 87)]) 85 true)) rfl (fun hg => agraffelaw08_sameCounts_ok n y7.2 y9.2 y10 (gcall_some hy10 hg)) [] (fun hg => by kernel_rfl) (fun hg => (.cons rfl (.cons hg (.cons hg .nil)))) (by kernel_rfl) (by kernel_rfl) ObsRen.nil (by kernel_rfl) (by kernel_rfl)) ?_
    refine RegJ.op (Op1.and (cy (I0 89 (.pick (.t 85) (.t 88) (.c (.p (.bool false)))))) rfl rfl (by first | exact hokA1 | exact hokA0 | simp)) ?_
    refine jq 1 [(6, vb ((y7.1 == y9.1) && y10))] [none] ?_
    refine TriE.ret ?_
    have h := Option.some.inj h
    subst h
    exact DoneS.ret (S' := ⟨[(6, vb ((y7.1 == y9.1) && y10))], []⟩) (sc [] (by decide) (by kernel_rfl) ObRen.nil rfl rfl) rfl rfl
  intro k1 h
  refine sr [(0, eS 3 eStocked a0), (1, eS 3 ePartPromise a1), (2, eS 2 ePartCount a2), (7, vi 0)] [] ?_
  refine TriE.block ?_
  refine TriE.sees (S' := ⟨[(0, eS 3 eStocked a0), (1, eS 3 ePartPromise a1), (2, eS 2 ePartCount a2), (7, vi 0)], []⟩) sy ?_
  refine TriE.loopN h (fun (v4 : Nat) => St.mk [(0, eS 3 eStocked a0), (1, eS 3 ePartPromise a1), (2, eS 2 ePartCount a2), (7, vi v4)] []) rfl ?_
  clear h
  rintro back v4 h
  dsimp only [agraffelaw08_RestoreMissing_L1] at h
  refine TriE.seq ?_
  refine sj ?_
  refine rn 2 [(0, eS 3 eStocked a0), (1, eS 3 ePartPromise a1), (2, eS 2 ePartCount a2), (7, vi v4), (38, vi v4), (39, eS 2 ePartCount a2)] [] ?_
  refine jv (vi (a2.length : Int)) (cy (I0 40 (.len 0 (.t 39)))) (ok_len_m rfl) rfl ?_
  refine jv (vb (decide (v4 < a2.length))) (cy (I0 41 (.bin .lss false (.t 38) (.t 40)))) (n_lss (i := v4) (j := a2.length) rfl rfl) rfl ?_
  refine jp [(0, eS 3 eStocked a0), (1, eS 3 ePartPromise a1), (2, eS 2 ePartCount a2), (7, vi v4), (41, vb (decide (v4 < a2.length)))] ?_
  refine TriE.cond (b := decide (v4 < a2.length)) rfl (fun c3 => ?_) (fun c3 => ?_)
  · have h := cond_t h c3
    refine TriE.skip ?_
    refine TriE.seq ?_
    refine TriE.block ?_
    refine sj ?_
    refine rn 2 [(0, eS 3 eStocked a0), (1, eS 3 ePartPromise a1), (2, eS 2 ePartCount a2), (7, vi v4), (44, eS 2 ePartCount a2), (45, vi v4)] [] ?_
    refine jv (.fptr 2 (List.map ePartCount a2) v4 0) (cy (I0 46 (.iaddr 2 (.t 44) (.t 45)))) (ok_iaddr_m (j := v4) rfl rfl rfl c3) rfl ?_
    refine rn 1 [(0, eS 3 eStocked a0), (1, eS 3 ePartPromise a1), (2, eS 2 ePartCount a2), (7, vi v4), (47, .fptr 2 (List.map ePartCount a2) v4 0)] [] ?_
    refine jv (vt ((ix a2 v4).Part)) (cy (I0 48 (.load false 1 (.t 47)))) (ok_load_fm (v := vt ((ix a2 v4).Part)) rfl c3 rfl) rfl ?_
    refine jv (vi ((((ix a2 v4).Part).length : Nat) : Int)) (cy (I0 49 (.len 1 (.t 48)))) (ok_len_t rfl) rfl ?_
    refine jv (vb (decide (20 < (((ix a2 v4).Part).length)))) (cy (I0 50 (.bin .gtr false (.t 49) (.c (.p (.int .i64 20)))))) (n_gtr (i := ((ix a2 v4).Part).length) (j := 20) rfl rfl) rfl ?_
    refine jp [(0, eS 3 eStocked a0), (1, eS 3 ePartPromise a1), (2, eS 2 ePartCount a2), (7, vi v4), (50, vb (decide (20 < (((ix a2 v4).Part).length))))] ?_
    refine TriE.cond (b := decide (20 < (((ix a2 v4).Part).length))) rfl (fun c4 => ?_) (fun c4 => ?_)
    · have h := cond_t h c4
      refine sr [(6, vb true)] [] ?_
      refine TriE.ret ?_
      have h := Option.some.inj h
      subst h
      exact DoneS.ret (S' := ⟨[(6, vb true)], []⟩) Sees.refl rfl rfl
    have h := cond_f h c4
    refine TriE.skip ?_
    refine TriE.regJ ?_
    refine rn 1 [(0, eS 3 eStocked a0), (1, eS 3 ePartPromise a1), (2, eS 2 ePartCount a2), (42, vi v4)] [] ?_
    obtain ⟨c5, h⟩ := chk_some h
    refine jv (vi ((v4 + 1 : Nat) : Int)) (cy (I0 43 (.bin .add false (.t 42) (.c (.p (.int .i64 1)))))) (r_addn (i := v4) (j := 1) rfl rfl c5) rfl ?_
    refine jq 1 [(0, eS 3 eStocked a0), (1, eS 3 ePartPromise a1), (2, eS 2 ePartCount a2), (7, vi ((v4 + 1 : Nat) : Int))] [] ?_
    exact Vs.intro sy ⟨(v4 + 1), rfl, h⟩
  have h := cond_f h c3
  refine TriE.exit ?_
  exact Vs.intro sy ⟨(), rfl, h⟩
end Go.Proofs.YtcdcpambkdlhjaaGreat.As
