/- The code computes what the plain functions say, part 1: no condition. -/
import Derived.Test.YtcdcpambkdlhjaaGreatPlain1
import Derived.Test.YtcdcpambkdlhjaaGreatProg
namespace Go.Proofs.YtcdcpambkdlhjaaGreat.As
open Go Go.Proofs
set_option maxRecDepth 4000
def keepT : List (Nat × List Nat) := [(14, [0, 1, 2, 3, 4, 5, 6, 7]), (19, [0, 2, 3, 4, 7, 9, 10, 11, 17, 25]), (22, [0, 2, 3, 4, 7, 8, 9, 10, 11, 15, 20, 28]), (29, [0, 1, 4, 5, 6, 7, 8, 10, 11, 12, 17, 21, 22, 23, 24, 28, 29, 30, 35]), (33, [0, 1, 4, 5, 10, 14, 25]), (35, [0, 1, 4, 5, 10, 14, 26]), (39, [0, 1, 4, 5, 10, 14, 25]), (65, [0, 1, 2, 6, 7, 8, 9, 10, 11, 12, 13, 15, 16, 17, 19, 20, 22, 23, 24, 25, 26, 27, 28, 29, 30, 34, 39, 46, 50, 51, 52, 53, 63, 77, 78, 79, 80, 81, 85, 86, 87, 88, 127, 128, 129, 140, 144, 145, 146, 147, 155, 180]), (82, [0]), (83, [0]), (84, [0, 1, 2, 3, 4, 5, 6, 8, 9, 10, 11, 12, 13, 15, 16, 20, 24, 28, 31, 35, 36, 37, 38, 52, 53, 54, 55, 83, 84, 85, 86]), (85, [0, 1, 4, 5, 6, 7, 9, 10, 15, 20, 27, 38, 66, 69, 70, 71, 72, 77, 82]), (86, [0, 1, 3, 4, 5, 6, 7, 13]), (87, [2]), (89, [0, 2, 3, 4, 5, 7, 8, 9, 10, 45]), (90, [0, 1, 3, 4]), (91, [0, 1, 2, 6]), (96, [0, 1, 4, 5, 6, 7, 8, 9, 10, 14, 19]), (98, [0, 1, 4, 5, 6, 8, 13, 17, 18, 19, 20, 21, 39]), (99, [0, 2, 4]), (100, [0, 1, 4, 5, 7, 8, 9, 16]), (101, [0, 1, 2, 3]), (103, [0, 2]), (108, [0, 1, 4, 5, 6, 7, 8, 9, 10, 14, 19, 25]), (116, [0, 1, 4]), (117, [0, 1, 3, 4]), (118, [0, 1, 4]), (126, [0, 1, 4]), (131, [0, 1, 4, 6, 7, 8, 9, 10, 11, 17, 22, 34]), (132, [0, 1, 2, 4, 5, 6, 8, 9, 13, 14, 15, 16, 24]), (133, [0, 1, 4, 5, 7, 8, 9, 10, 11]), (134, [0, 1, 3, 4, 5, 10, 11, 12, 18, 39]), (135, [0, 1, 4, 5, 6, 7, 8, 9, 10, 11, 19]), (136, [0, 2, 3, 5, 6, 7, 8, 9, 14]), (137, [0, 1, 4, 5, 6, 11, 12, 13, 16, 19]), (138, [0, 1, 4, 5, 6, 7, 8, 9, 10, 11, 12, 19, 28, 35]), (145, [0, 1, 4, 5, 6, 11, 12, 13, 16, 19]), (146, [0, 1, 2]), (148, [0, 2]), (149, [0, 2, 3, 4, 7, 15]), (150, [0, 1]), (151, [0, 1, 2, 3, 4, 7]), (152, [0, 2]), (153, [0, 1, 2, 4]), (154, [0, 1, 4]), (155, [0, 1, 4, 5, 7, 8, 9, 16]), (156, [0, 1, 2, 3]), (157, [0, 1, 4, 5, 7, 8, 9, 16]), (158, [0, 1, 2, 3]), (162, [0, 1, 2, 12]), (163, [0, 1, 2, 3, 8, 9, 11, 12, 13, 17, 19, 20, 21, 22, 30, 34, 42]), (164, [0, 1, 2]), (165, [0, 1, 2, 3, 8, 9, 10, 11, 12, 13, 14, 15, 16, 17, 18, 23, 29, 35, 50, 68, 72, 87, 113]), (166, [0, 2]), (167, [0, 1, 4]), (168, [0, 1, 2, 3]), (170, [0, 1, 4, 5, 7, 8, 9, 16]), (171, [0, 1, 2, 3]), (172, [0, 1, 4, 5, 7, 8, 9, 16]), (180, [0, 1, 4, 5, 7, 8, 9, 16]), (181, [0, 1, 4]), (182, [0, 1, 3]), (183, [0, 2]), (186, [0, 2]), (187, [0, 2, 3, 5, 6, 8, 9, 10, 11, 12, 20, 25, 26, 27, 28]), (188, [0, 1, 2, 6, 7, 8, 9, 13, 30, 35, 54]), (189, [0, 1, 4, 5, 7, 8, 9, 16]), (190, [0, 1, 2, 6, 7, 12, 30]), (191, [0, 1, 2, 6, 7, 8, 9, 10, 19, 30]), (192, [0, 1, 2, 6, 7, 8, 9, 10, 15, 33, 43]), (193, [0, 1, 2, 6, 7, 8, 9, 10, 11, 12, 32, 34, 49, 51, 54]), (194, [0, 1, 2, 6, 7, 13]), (195, [0, 1, 2, 6, 7, 8, 9, 10, 14, 32, 37, 41, 61, 65, 78, 98, 103, 116]), (196, [0, 1, 4]), (197, [0, 1, 2, 3, 8, 9, 10, 43, 59, 64]), (198, [0, 1, 2, 3, 8, 9, 10, 11, 43, 60, 65, 112, 129, 134]), (199, [0, 2, 4, 8]), (200, [0, 2, 4, 8, 14]), (201, [0, 1, 4, 5, 7, 8, 9, 16]), (205, [0, 1, 4, 5, 7, 8, 9, 16]), (216, [0, 1, 4, 6, 16]), (217, [0, 1, 2, 3, 8, 9, 14, 34]), (218, [0, 1, 2, 3, 4, 10, 11, 12, 13, 14, 15, 16, 17, 18, 19, 20, 21, 22, 23, 24, 28, 33, 50, 58, 80, 85, 103, 110, 140, 151, 171, 185, 199, 213]), (219, [0, 1, 2, 3, 8, 9, 16, 36, 52]), (220, [0, 2]), (221, [0, 2]), (222, [0, 1, 2, 6]), (223, [0, 1, 2, 3, 4, 10]), (228, [0, 1, 2, 3, 4, 10, 11, 20, 23]), (229, [0, 1, 2, 3, 8, 9, 18]), (231, [0, 1, 2, 3, 10, 13])]
def keepOf (f : Nat) : List Nat := match keepT.find? (fun p => Nat.beq p.1 f) with
  | some p => p.2
  | none => []
theorem closed_ok : FnL Tryz.prog 14 [] [] (vb true) [] := funE_sound (by kernel_rfl) 200 false 14 [] [] _ _ (by kernel_rfl : funE Tryz.prog keepOf 1000 200 false 14 [] [] = some (vb true, []))
theorem agraffelaw08_awake_ok (n : Nat) (r : Bool) (h : agraffelaw08_awake n = some r) : FnL Tryz.prog 14 [] [] (vb r) [] := by
  cases h
  exact closed_ok
theorem agraffelaw08_stocked_ok (n : Nat) (a0 : List Stocked) (r : Bool) (h : agraffelaw08_stocked n a0 = some r) : FnL Tryz.prog 16 [eS 3 eStocked a0] [] (vb r) [] := by
  dsimp only [agraffelaw08_stocked] at h
  refine FnL.ofS (ts := [2]) Tryz.call16 Tryz.func16 rfl rfl (Nat.le_of_ble_eq_true rfl) (Nat.le_of_ble_eq_true rfl) (fun j h => absurd h (Nat.not_lt_zero j)) ?_
  refine sr [(0, eS 3 eStocked a0)] [] ?_
  refine TriE.seq ?_
  refine sj ?_
  refine rn 1 [(0, eS 3 eStocked a0), (4, eS 3 eStocked a0)] [] ?_
  refine jv (vi (a0.length : Int)) (cy (I0 5 (.len 0 (.t 4)))) (ok_len_m rfl) rfl ?_
  refine jv (vb (decide (8 < a0.length))) (cy (I0 6 (.bin .gtr false (.t 5) (.c (.p (.int .i64 8)))))) (n_gtr (i := a0.length) (j := 8) rfl rfl) rfl ?_
  refine rn 1 [(0, eS 3 eStocked a0), (7, vb (decide (8 < a0.length)))] [] ?_
  refine RegJ.op (Op1.valk (v := eS 3 eStocked a0) _ _ (cy (IG 8 (.mov (.t 0)) 7 true)) rfl (by kernel_rfl) (fun hg => (.cons rfl .nil))) ?_
  refine RegJ.op (Op1.valg (v := vi (a0.length : Int)) _ _ (cy (IG 9 (.len 0 (.t 8)) 7 true)) rfl (fun hg => (ok_len_m rfl)) (fun hg => (.cons hg .nil))) ?_
  refine RegJ.op (Op1.valg (v := vb (decide (a0.length ≤ 60))) _ _ (cy (IG 10 (.bin .leq false (.t 9) (.c (.p (.int .i64 60)))) 7 true)) rfl (fun hg => (n_leq (i := a0.length) (j := 60) rfl rfl)) (fun hg => (.cons hg (.cons rfl .nil)))) ?_
  refine RegJ.op (Op1.and (cy (I0 11 (.pick (.t 7) (.t 10) (.c (.p (.bool false)))))) rfl rfl (by first | exact hokA1 | exact hokA0 | simp)) ?_
  refine rn 1 [(0, eS 3 eStocked a0), (12, vb ((decide (8 < a0.length)) && (decide (a0.length ≤ 60))))] [] ?_
  refine RegJ.op (Op1.valk (v := eS 3 eStocked a0) _ _ (cy (IG 13 (.mov (.t 0)) 12 false)) rfl (by kernel_rfl) (fun hg => (.cons rfl .nil))) ?_
  refine RegJ.op (Op1.valg (v := vi (a0.length : Int)) _ _ (cy (IG 14 (.len 0 (.t 13)) 12 false)) rfl (fun hg => (ok_len_m rfl)) (fun hg => (.cons hg .nil))) ?_
  refine RegJ.op (Op1.valg (v := vb (decide (63 < a0.length))) _ _ (cy (IG 15 (.bin .gtr false (.t 14) (.c (.p (.int .i64 63)))) 12 false)) rfl (fun hg => (n_gtr (i := a0.length) (j := 63) rfl rfl)) (fun hg => (.cons hg (.cons rfl .nil)))) ?_
  refine RegJ.op (Op1.or (cy (I0 16 (.pick (.t 12) (.c (.p (.bool true))) (.t 15)))) rfl rfl (by first | exact hokO1 | exact hokO0 | simp)) ?_
  refine jp [(0, eS 3 eStocked a0), (16, vb (((decide (8 < a0.length)) && (decide (a0.length ≤ 60))) || (decide (63 < a0.length))))] ?_
  refine TriE.cond (b := ((decide (8 < a0.length)) && (decide (a0.length ≤ 60))) || (decide (63 < a0.length))) rfl (fun c1 => ?_) (fun c1 => ?_)
  · have h := cond_t h c1
    refine sr [(2, vb false)] [] ?_
    refine TriE.ret ?_
    have h := Option.some.inj h
    subst h
    exact DoneS.ret (S' := ⟨[(2, vb false)], []⟩) Sees.refl rfl rfl
  have h := cond_f h c1
  refine TriE.skip ?_
  refine TriE.seqK h (fun (_ : Unit) => St.mk [] []) ?_ ?_
  · rintro ⟨⟩ h
    refine sr [(2, vb true)] [] ?_
    refine TriE.ret ?_
    have h := Option.some.inj h
    subst h
    exact DoneS.ret (S' := ⟨[(2, vb true)], []⟩) Sees.refl rfl rfl
  intro k1 h
  refine sr [(0, eS 3 eStocked a0), (3, vi 0)] [] ?_
  refine TriE.block ?_
  refine TriE.sees (S' := ⟨[(0, eS 3 eStocked a0), (3, vi 0)], []⟩) sy ?_
  refine TriE.loopN h (fun (v1 : Nat) => St.mk [(0, eS 3 eStocked a0), (3, vi v1)] []) rfl ?_
  clear h
  rintro back v1 h
  dsimp only [agraffelaw08_stocked_L1] at h
  refine TriE.seq ?_
  refine sj ?_
  refine rn 2 [(0, eS 3 eStocked a0), (3, vi v1), (17, vi v1), (18, eS 3 eStocked a0)] [] ?_
  refine jv (vi (a0.length : Int)) (cy (I0 19 (.len 0 (.t 18)))) (ok_len_m rfl) rfl ?_
  refine jv (vb (decide (v1 < a0.length))) (cy (I0 20 (.bin .lss false (.t 17) (.t 19)))) (n_lss (i := v1) (j := a0.length) rfl rfl) rfl ?_
  refine jp [(0, eS 3 eStocked a0), (3, vi v1), (20, vb (decide (v1 < a0.length)))] ?_
  refine TriE.cond (b := decide (v1 < a0.length)) rfl (fun c2 => ?_) (fun c2 => ?_)
  · have h := cond_t h c2
    refine TriE.skip ?_
    refine TriE.seq ?_
    refine TriE.block ?_
    refine sj ?_
    refine rn 2 [(0, eS 3 eStocked a0), (3, vi v1), (23, eS 3 eStocked a0), (24, vi v1)] [] ?_
    refine jv (.fptr 3 (List.map eStocked a0) v1 0) (cy (I0 25 (.iaddr 3 (.t 23) (.t 24)))) (ok_iaddr_m (j := v1) rfl rfl rfl c2) rfl ?_
    refine rn 1 [(0, eS 3 eStocked a0), (3, vi v1), (26, .fptr 3 (List.map eStocked a0) v1 0)] [] ?_
    refine jv (vt ((ix a0 v1).Part)) (cy (I0 27 (.load false 1 (.t 26)))) (ok_load_fm (v := vt ((ix a0 v1).Part)) rfl c2 rfl) rfl ?_
    refine jv (vi ((((ix a0 v1).Part).length : Nat) : Int)) (cy (I0 28 (.len 1 (.t 27)))) (ok_len_t rfl) rfl ?_
    refine jv (vb (decide (20 < (((ix a0 v1).Part).length)))) (cy (I0 29 (.bin .gtr false (.t 28) (.c (.p (.int .i64 20)))))) (n_gtr (i := ((ix a0 v1).Part).length) (j := 20) rfl rfl) rfl ?_
    refine jp [(0, eS 3 eStocked a0), (3, vi v1), (29, vb (decide (20 < (((ix a0 v1).Part).length))))] ?_
    refine TriE.cond (b := decide (20 < (((ix a0 v1).Part).length))) rfl (fun c3 => ?_) (fun c3 => ?_)
    · have h := cond_t h c3
      refine sr [(2, vb false)] [] ?_
      refine TriE.ret ?_
      have h := Option.some.inj h
      subst h
      exact DoneS.ret (S' := ⟨[(2, vb false)], []⟩) Sees.refl rfl rfl
    have h := cond_f h c3
    refine TriE.skip ?_
    refine TriE.regJ ?_
    refine rn 1 [(0, eS 3 eStocked a0), (21, vi v1)] [] ?_
    obtain ⟨c4, h⟩ := chk_some h
    refine jv (vi ((v1 + 1 : Nat) : Int)) (cy (I0 22 (.bin .add false (.t 21) (.c (.p (.int .i64 1)))))) (r_addn (i := v1) (j := 1) rfl rfl c4) rfl ?_
    refine jq 1 [(0, eS 3 eStocked a0), (3, vi ((v1 + 1 : Nat) : Int))] [] ?_
    exact Vs.intro sy ⟨(v1 + 1), rfl, h⟩
  have h := cond_f h c2
  refine TriE.exit ?_
  exact Vs.intro sy ⟨(), rfl, h⟩
theorem agraffelaw08_promised_ok (n : Nat) (a0 : List PartPromise) (r : Bool) (h : agraffelaw08_promised n a0 = some r) : FnL Tryz.prog 40 [eS 3 ePartPromise a0] [] (vb r) [] := by
  dsimp only [agraffelaw08_promised] at h
  refine FnL.ofS (ts := [2]) Tryz.call40 Tryz.func40 rfl rfl (Nat.le_of_ble_eq_true rfl) (Nat.le_of_ble_eq_true rfl) (fun j h => absurd h (Nat.not_lt_zero j)) ?_
  refine sr [(0, eS 3 ePartPromise a0)] [] ?_
  refine TriE.seq ?_
  refine sj ?_
  refine rn 1 [(0, eS 3 ePartPromise a0), (4, eS 3 ePartPromise a0)] [] ?_
  refine jv (vi (a0.length : Int)) (cy (I0 5 (.len 0 (.t 4)))) (ok_len_m rfl) rfl ?_
  refine jv (vb (decide (12 < a0.length))) (cy (I0 6 (.bin .gtr false (.t 5) (.c (.p (.int .i64 12)))))) (n_gtr (i := a0.length) (j := 12) rfl rfl) rfl ?_
  refine rn 1 [(0, eS 3 ePartPromise a0), (7, vb (decide (12 < a0.length)))] [] ?_
  refine RegJ.op (Op1.valk (v := eS 3 ePartPromise a0) _ _ (cy (IG 8 (.mov (.t 0)) 7 true)) rfl (by kernel_rfl) (fun hg => (.cons rfl .nil))) ?_
  refine RegJ.op (Op1.valg (v := vi (a0.length : Int)) _ _ (cy (IG 9 (.len 0 (.t 8)) 7 true)) rfl (fun hg => (ok_len_m rfl)) (fun hg => (.cons hg .nil))) ?_
  refine RegJ.op (Op1.valg (v := vb (decide (a0.length ≤ 200))) _ _ (cy (IG 10 (.bin .leq false (.t 9) (.c (.p (.int .i64 200)))) 7 true)) rfl (fun hg => (n_leq (i := a0.length) (j := 200) rfl rfl)) (fun hg => (.cons hg (.cons rfl .nil)))) ?_
  refine RegJ.op (Op1.and (cy (I0 11 (.pick (.t 7) (.t 10) (.c (.p (.bool false)))))) rfl rfl (by first | exact hokA1 | exact hokA0 | simp)) ?_
  refine rn 1 [(0, eS 3 ePartPromise a0), (12, vb ((decide (12 < a0.length)) && (decide (a0.length ≤ 200))))] [] ?_
  refine RegJ.op (Op1.valk (v := eS 3 ePartPromise a0) _ _ (cy (IG 13 (.mov (.t 0)) 12 false)) rfl (by kernel_rfl) (fun hg => (.cons rfl .nil))) ?_
  refine RegJ.op (Op1.valg (v := vi (a0.length : Int)) _ _ (cy (IG 14 (.len 0 (.t 13)) 12 false)) rfl (fun hg => (ok_len_m rfl)) (fun hg => (.cons hg .nil))) ?_
  refine RegJ.op (Op1.valg (v := vb (decide (203 < a0.length))) _ _ (cy (IG 15 (.bin .gtr false (.t 14) (.c (.p (.int .i64 203)))) 12 false)) rfl (fun hg => (n_gtr (i := a0.length) (j := 203) rfl rfl)) (fun hg => (.cons hg (.cons rfl .nil)))) ?_
  refine RegJ.op (Op1.or (cy (I0 16 (.pick (.t 12) (.c (.p (.bool true))) (.t 15)))) rfl rfl (by first | exact hokO1 | exact hokO0 | simp)) ?_
  refine jp [(0, eS 3 ePartPromise a0), (16, vb (((decide (12 < a0.length)) && (decide (a0.length ≤ 200))) || (decide (203 < a0.length))))] ?_
  refine TriE.cond (b := ((decide (12 < a0.length)) && (decide (a0.length ≤ 200))) || (decide (203 < a0.length))) rfl (fun c1 => ?_) (fun c1 => ?_)
  · have h := cond_t h c1
    refine sr [(2, vb false)] [] ?_
    refine TriE.ret ?_
    have h := Option.some.inj h
    subst h
    exact DoneS.ret (S' := ⟨[(2, vb false)], []⟩) Sees.refl rfl rfl
  have h := cond_f h c1
  refine TriE.skip ?_
  refine TriE.seqK h (fun (_ : Unit) => St.mk [] []) ?_ ?_
  · rintro ⟨⟩ h
    refine sr [(2, vb true)] [] ?_
    refine TriE.ret ?_
    have h := Option.some.inj h
    subst h
    exact DoneS.ret (S' := ⟨[(2, vb true)], []⟩) Sees.refl rfl rfl
  intro k1 h
  refine sr [(0, eS 3 ePartPromise a0), (3, vi 0)] [] ?_
  refine TriE.block ?_
  refine TriE.sees (S' := ⟨[(0, eS 3 ePartPromise a0), (3, vi 0)], []⟩) sy ?_
  refine TriE.loopN h (fun (v1 : Nat) => St.mk [(0, eS 3 ePartPromise a0), (3, vi v1)] []) rfl ?_
  clear h
  rintro back v1 h
  dsimp only [agraffelaw08_promised_L1] at h
  refine TriE.seq ?_
  refine sj ?_
  refine rn 2 [(0, eS 3 ePartPromise a0), (3, vi v1), (17, vi v1), (18, eS 3 ePartPromise a0)] [] ?_
  refine jv (vi (a0.length : Int)) (cy (I0 19 (.len 0 (.t 18)))) (ok_len_m rfl) rfl ?_
  refine jv (vb (decide (v1 < a0.length))) (cy (I0 20 (.bin .lss false (.t 17) (.t 19)))) (n_lss (i := v1) (j := a0.length) rfl rfl) rfl ?_
  refine jp [(0, eS 3 ePartPromise a0), (3, vi v1), (20, vb (decide (v1 < a0.length)))] ?_
  refine TriE.cond (b := decide (v1 < a0.length)) rfl (fun c2 => ?_) (fun c2 => ?_)
  · have h := cond_t h c2
    refine TriE.skip ?_
    refine TriE.seq ?_
    refine TriE.block ?_
    refine sj ?_
    refine rn 2 [(0, eS 3 ePartPromise a0), (3, vi v1), (23, eS 3 ePartPromise a0), (24, vi v1)] [] ?_
    refine jv (.fptr 3 (List.map ePartPromise a0) v1 0) (cy (I0 25 (.iaddr 3 (.t 23) (.t 24)))) (ok_iaddr_m (j := v1) rfl rfl rfl c2) rfl ?_
    refine rn 1 [(0, eS 3 ePartPromise a0), (3, vi v1), (26, .fptr 3 (List.map ePartPromise a0) v1 0)] [] ?_
    refine jv (vt ((ix a0 v1).Instrument)) (cy (I0 27 (.load false 1 (.t 26)))) (ok_load_fm (v := vt ((ix a0 v1).Instrument)) rfl c2 rfl) rfl ?_
    refine jv (vi ((((ix a0 v1).Instrument).length : Nat) : Int)) (cy (I0 28 (.len 1 (.t 27)))) (ok_len_t rfl) rfl ?_
    refine jv (vb (decide (20 < (((ix a0 v1).Instrument).length)))) (cy (I0 29 (.bin .gtr false (.t 28) (.c (.p (.int .i64 20)))))) (n_gtr (i := ((ix a0 v1).Instrument).length) (j := 20) rfl rfl) rfl ?_
    refine rn 1 [(0, eS 3 ePartPromise a0), (3, vi v1), (30, vb (decide (20 < (((ix a0 v1).Instrument).length))))] [] ?_
    refine RegJ.op (Op1.valk (v := eS 3 ePartPromise a0) _ _ (cy (IG 31 (.mov (.t 0)) 30 false)) rfl (by kernel_rfl) (fun hg => (.cons rfl .nil))) ?_
    refine RegJ.op (Op1.valk (v := vi v1) _ _ (cy (IG 32 (.mov (.t 3)) 30 false)) rfl (by kernel_rfl) (fun hg => (.cons rfl .nil))) ?_
    refine RegJ.op (Op1.valg (v := .fptr 3 (List.map ePartPromise a0) v1 0) _ _ (cy (IG 33 (.iaddr 3 (.t 31) (.t 32)) 30 false)) rfl (fun hg => (ok_iaddr_m (j := v1) rfl rfl rfl c2)) (fun hg => (.cons hg (.cons hg .nil)))) ?_
    refine RegJ.op (Op1.valk (v := .fptr 3 (List.map ePartPromise a0) v1 1) _ _ (cy (IG 34 (.faddr 1 (.t 33)) 30 false)) rfl (by kernel_rfl) (fun hg => (.cons hg .nil))) ?_
    refine RegJ.op (Op1.valg (v := vt ((ix a0 v1).Part)) _ _ (cy (IG 35 (.load false 1 (.t 34)) 30 false)) rfl (fun hg => (ok_load_fm (v := vt ((ix a0 v1).Part)) rfl c2 rfl)) (fun hg => (.cons hg .nil))) ?_
    refine RegJ.op (Op1.valg (v := vi ((((ix a0 v1).Part).length : Nat) : Int)) _ _ (cy (IG 36 (.len 1 (.t 35)) 30 false)) rfl (fun hg => (ok_len_t rfl)) (fun hg => (.cons hg .nil))) ?_
    refine RegJ.op (Op1.valg (v := vb (decide (20 < (((ix a0 v1).Part).length)))) _ _ (cy (IG 37 (.bin .gtr false (.t 36) (.c (.p (.int .i64 20)))) 30 false)) rfl (fun hg => (n_gtr (i := ((ix a0 v1).Part).length) (j := 20) rfl rfl)) (fun hg => (.cons hg (.cons rfl .nil)))) ?_
    refine RegJ.op (Op1.or (cy (I0 38 (.pick (.t 30) (.c (.p (.bool true))) (.t 37)))) rfl rfl (by first | exact hokO1 | exact hokO0 | simp)) ?_
    refine jp [(0, eS 3 ePartPromise a0), (3, vi v1), (38, vb ((decide (20 < (((ix a0 v1).Instrument).length))) || (decide (20 < (((ix a0 v1).Part).length)))))] ?_
    refine TriE.cond (b := (decide (20 < (((ix a0 v1).Instrument).length))) || (decide (20 < (((ix a0 v1).Part).length)))) rfl (fun c3 => ?_) (fun c3 => ?_)
    · have h := cond_t h c3
      refine sr [(2, vb false)] [] ?_
      refine TriE.ret ?_
      have h := Option.some.inj h
      subst h
      exact DoneS.ret (S' := ⟨[(2, vb false)], []⟩) Sees.refl rfl rfl
    have h := cond_f h c3
    refine TriE.skip ?_
    refine TriE.regJ ?_
    refine rn 1 [(0, eS 3 ePartPromise a0), (21, vi v1)] [] ?_
    obtain ⟨c4, h⟩ := chk_some h
    refine jv (vi ((v1 + 1 : Nat) : Int)) (cy (I0 22 (.bin .add false (.t 21) (.c (.p (.int .i64 1)))))) (r_addn (i := v1) (j := 1) rfl rfl c4) rfl ?_
    refine jq 1 [(0, eS 3 ePartPromise a0), (3, vi ((v1 + 1 : Nat) : Int))] [] ?_
    exact Vs.intro sy ⟨(v1 + 1), rfl, h⟩
  have h := cond_f h c2
  refine TriE.exit ?_
  exact Vs.intro sy ⟨(), rfl, h⟩
theorem agraffelaw08_stock_ok (n : Nat) (a0 : List Stocked) (r : Unit) (h : agraffelaw08_stock n a0 = some r) : FnL Tryz.prog 23 [eS 3 eStocked a0] [] (eS 3 eStocked a0) [] := by
  dsimp only [agraffelaw08_stock] at h
  refine FnL.ofS (ts := [2]) Tryz.call23 Tryz.func23 rfl rfl (Nat.le_of_ble_eq_true rfl) (Nat.le_of_ble_eq_true rfl) (fun j h => absurd h (Nat.not_lt_zero j)) ?_
  refine sr [(0, eS 3 eStocked a0)] [] ?_
  refine sj ?_
  refine rn 2 [(3, .emp), (4, eS 3 eStocked a0)] [] ?_
  obtain ⟨c1, h⟩ := chk_some h
  refine je (.own 0 0 a0.length) [some (.row 3 (List.map eStocked a0))] (cy (I0 5 (.app 3 32 (.t 3) (.t 4)))) (ok_app_emp (e := eStocked) (l := a0) (u := eS 3 eStocked a0) rfl rfl els_sl c1) rfl rfl rfl ?_
  refine jq 1 [(2, .own 0 0 a0.length)] [some (.row 3 (List.map eStocked a0))] ?_
  refine TriE.ret ?_
  have h := Option.some.inj h
  subst h
  exact DoneS.ret (S' := ⟨[(2, eS 3 eStocked a0)], []⟩) (Sees.trans (Sees.freeze 0 (fr' := [(2, eS 3 eStocked a0)]) (ob' := [none]) rfl (frz_row eStocked_frzE _) (.cons (frz_full rfl) .nil) rfl) (sc [] (by decide) (by kernel_rfl) ObRen.nil rfl rfl)) rfl rfl
theorem agraffelaw08_promises_ok (n : Nat) (a0 : List PartPromise) (r : Unit) (h : agraffelaw08_promises n a0 = some r) : FnL Tryz.prog 42 [eS 3 ePartPromise a0] [] (eS 3 ePartPromise a0) [] := by
  dsimp only [agraffelaw08_promises] at h
  refine FnL.ofS (ts := [2]) Tryz.call42 Tryz.func42 rfl rfl (Nat.le_of_ble_eq_true rfl) (Nat.le_of_ble_eq_true rfl) (fun j h => absurd h (Nat.not_lt_zero j)) ?_
  refine sr [(0, eS 3 ePartPromise a0)] [] ?_
  refine sj ?_
  refine rn 2 [(3, .emp), (4, eS 3 ePartPromise a0)] [] ?_
  obtain ⟨c1, h⟩ := chk_some h
  refine je (.own 0 0 a0.length) [some (.row 3 (List.map ePartPromise a0))] (cy (I0 5 (.app 3 40 (.t 3) (.t 4)))) (ok_app_emp (e := ePartPromise) (l := a0) (u := eS 3 ePartPromise a0) rfl rfl els_sl c1) rfl rfl rfl ?_
  refine jq 1 [(2, .own 0 0 a0.length)] [some (.row 3 (List.map ePartPromise a0))] ?_
  refine TriE.ret ?_
  have h := Option.some.inj h
  subst h
  exact DoneS.ret (S' := ⟨[(2, eS 3 ePartPromise a0)], []⟩) (Sees.trans (Sees.freeze 0 (fr' := [(2, eS 3 ePartPromise a0)]) (ob' := [none]) rfl (frz_row ePartPromise_frzE _) (.cons (frz_full rfl) .nil) rfl) (sc [] (by decide) (by kernel_rfl) ObRen.nil rfl rfl)) rfl rfl
theorem restore_isName_ok (n : Nat) (a0 : Str) (r : Bool) (h : restore_isName n a0 = some r) : FnL Tryz.prog 89 [vt a0] [] (vb r) [] := by
  dsimp only [restore_isName] at h
  refine FnL.ofS (ts := [2]) Tryz.call89 Tryz.func89 rfl rfl (Nat.le_of_ble_eq_true rfl) (Nat.le_of_ble_eq_true rfl) (fun j h => absurd h (Nat.not_lt_zero j)) ?_
  refine sr [(0, vt a0)] [] ?_
  refine TriE.seqK h (fun (_ : Unit) => St.mk [(0, vt a0)] []) ?_ ?_
  · rintro ⟨⟩ h
    refine sj ?_
    refine rn 3 [(0, vt a0), (49, vb (!(a0 == ([] : Str))))] [] ?_
    refine RegJ.op (Op1.valk (v := vt a0) _ _ (cy (IG 50 (.mov (.t 0)) 49 true)) rfl (by kernel_rfl) (fun hg => (.cons rfl .nil))) ?_
    refine RegJ.op (Op1.valg (v := vi (a0.length : Int)) _ _ (cy (IG 51 (.len 1 (.t 50)) 49 true)) rfl (fun hg => (ok_len_t rfl)) (fun hg => (.cons hg .nil))) ?_
    refine RegJ.op (Op1.valg (v := vb (decide (a0.length ≤ 12))) _ _ (cy (IG 52 (.bin .leq false (.t 51) (.c (.p (.int .i64 12)))) 49 true)) rfl (fun hg => (n_leq (i := a0.length) (j := 12) rfl rfl)) (fun hg => (.cons hg (.cons rfl .nil)))) ?_
    refine RegJ.op (Op1.and (cy (I0 53 (.pick (.t 49) (.t 52) (.c (.p (.bool false)))))) rfl rfl (by first | exact hokA1 | exact hokA0 | simp)) ?_
    refine jq 1 [(2, vb ((!(a0 == ([] : Str))) && (decide (a0.length ≤ 12))))] [] ?_
    refine TriE.ret ?_
    have h := Option.some.inj h
    subst h
    exact DoneS.ret (S' := ⟨[(2, vb ((!(a0 == ([] : Str))) && (decide (a0.length ≤ 12))))], []⟩) Sees.refl rfl rfl
  intro k1 h
  refine sj ?_
  refine rn 1 [(0, vt a0), (6, vt a0)] [] ?_
  refine RegJ.op (Op1.bytes (s := ⟨⟨a0⟩⟩) _ (cy (I0 7 (.bytes (.t 6)))) rfl (.cons rfl .nil)) ?_
  refine jv (vi (a0.length : Int)) (cy (I0 8 (.len 0 (.t 7)))) (ok_len_m rfl) rfl ?_
  refine jq 1 [(0, vt a0), (7, eS 1 vbyte a0), (8, vi (a0.length : Int)), (9, vi 0)] [] ?_
  refine TriE.block ?_
  refine TriE.sees (S' := ⟨[(0, vt a0), (7, eS 1 vbyte a0), (8, vi (a0.length : Int)), (9, vi 0)], []⟩) sy ?_
  refine TriE.loopN h (fun (v1 : Nat) => St.mk [(0, vt a0), (7, eS 1 vbyte a0), (8, vi (a0.length : Int)), (9, vi v1)] []) rfl ?_
  clear h
  rintro back v1 h
  dsimp only [restore_isName_L1] at h
  refine sj ?_
  refine jv (vb (decide (v1 < a0.length))) (cy (I0 10 (.bin .lss false (.t 9) (.t 8)))) (n_lss (i := v1) (j := a0.length) rfl rfl) rfl ?_
  refine jp [(0, vt a0), (7, eS 1 vbyte a0), (8, vi (a0.length : Int)), (9, vi v1), (10, vb (decide (v1 < a0.length)))] ?_
  refine TriE.seq ?_
  refine TriE.cond (b := decide (v1 < a0.length)) rfl (fun c1 => ?_) (fun c1 => ?_)
  · have h := cond_t h c1
    refine TriE.skip ?_
    refine TriE.seq ?_
    refine TriE.block ?_
    refine sj ?_
    refine rn 1 [(0, vt a0), (7, eS 1 vbyte a0), (8, vi (a0.length : Int)), (9, vi v1), (11, vi v1)] [] ?_
    refine jv (.fptr 1 (List.map vbyte a0) v1 0) (cy (I0 12 (.iaddr 1 (.t 7) (.t 9)))) (ok_iaddr_m (j := v1) rfl rfl rfl c1) rfl ?_
    refine jv (vk .u8 (((ix a0 v1).toNat : Nat) : Int)) (cy (I0 13 (.load false 1 (.t 12)))) (ok_load_fm (v := vk .u8 (((ix a0 v1).toNat : Nat) : Int)) rfl c1 rfl) rfl ?_
    refine jq 2 [(0, vt a0), (7, eS 1 vbyte a0), (8, vi (a0.length : Int)), (9, vi v1), (3, vi v1), (4, vk .u8 (((ix a0 v1).toNat : Nat) : Int))] [] ?_
    refine sj ?_
    refine rn 3 [(0, vt a0), (7, eS 1 vbyte a0), (8, vi (a0.length : Int)), (9, vi v1), (3, vi v1), (4, vk .u8 (((ix a0 v1).toNat : Nat) : Int)), (16, vb (decide ((97 : Int) ≤ (((ix a0 v1).toNat : Nat) : Int))))] [] ?_
    refine RegJ.op (Op1.valk (v := vk .u8 (((ix a0 v1).toNat : Nat) : Int)) _ _ (cy (IG 17 (.mov (.t 4)) 16 true)) rfl (by kernel_rfl) (fun hg => (.cons rfl .nil))) ?_
    refine RegJ.op (Op1.valk (v := vb (decide ((((ix a0 v1).toNat : Nat) : Int) ≤ (122 : Int)))) _ _ (cy (IG 18 (.bin .leq false (.t 17) (.c (.p (.int .u8 122)))) 16 true)) rfl (by kernel_rfl) (fun hg => (.cons hg (.cons rfl .nil)))) ?_
    refine RegJ.op (Op1.and (cy (I0 19 (.pick (.t 16) (.t 18) (.c (.p (.bool false)))))) rfl rfl (by first | exact hokA1 | exact hokA0 | simp)) ?_
    refine rn 1 [(0, vt a0), (7, eS 1 vbyte a0), (8, vi (a0.length : Int)), (9, vi v1), (3, vi v1), (4, vk .u8 (((ix a0 v1).toNat : Nat) : Int)), (17, .cond (decide ((97 : Int) ≤ (((ix a0 v1).toNat : Nat) : Int))) (vk .u8 (((ix a0 v1).toNat : Nat) : Int))), (18, .cond (decide ((97 : Int) ≤ (((ix a0 v1).toNat : Nat) : Int))) (vb (decide ((((ix a0 v1).toNat : Nat) : Int) ≤ (122 : Int))))), (20, vb ((decide ((97 : Int) ≤ (((ix a0 v1).toNat : Nat) : Int))) && (decide ((((ix a0 v1).toNat : Nat) : Int) ≤ (122 : Int)))))] [] ?_
    refine RegJ.op (Op1.valk (v := vk .u8 (((ix a0 v1).toNat : Nat) : Int)) _ _ (cy (IG 21 (.mov (.t 4)) 20 false)) rfl (by kernel_rfl) (fun hg => (.cons rfl .nil))) ?_
    refine RegJ.op (Op1.valk (v := vb (decide ((65 : Int) ≤ (((ix a0 v1).toNat : Nat) : Int)))) _ _ (cy (IG 22 (.bin .geq false (.t 21) (.c (.p (.int .u8 65)))) 20 false)) rfl (by kernel_rfl) (fun hg => (.cons hg (.cons rfl .nil)))) ?_
    refine RegJ.op (Op1.valk (v := vb (decide ((65 : Int) ≤ (((ix a0 v1).toNat : Nat) : Int)))) _ _ (cy (IG 23 (.mov (.t 22)) 20 false)) rfl (by kernel_rfl) (fun hg => (.cons hg .nil))) ?_
    refine RegJ.op (Op1.valk (v := vk .u8 (((ix a0 v1).toNat : Nat) : Int)) _ _ (cy (IG 24 (.mov (.t 4)) 23 true)) rfl (by kernel_rfl) (fun hg => (.cons rfl .nil))) ?_
    refine RegJ.op (Op1.valk (v := vb (decide ((((ix a0 v1).toNat : Nat) : Int) ≤ (90 : Int)))) _ _ (cy (IG 25 (.bin .leq false (.t 24) (.c (.p (.int .u8 90)))) 23 true)) rfl (by kernel_rfl) (fun hg => (.cons hg (.cons rfl .nil)))) ?_
    refine RegJ.op (Op1.andg (g := !((decide ((97 : Int) ≤ (((ix a0 v1).toNat : Nat) : Int))) && (decide ((((ix a0 v1).toNat : Nat) : Int) ≤ (122 : Int))))) (cy (IG 26 (.pick (.t 23) (.t 25) (.c (.p (.bool false)))) 20 false)) rfl rfl rfl (fun hg => by first | exact hokA2 hg | exact hokA3 hg | exact hokA1 | exact hokA0 | (rw [hg]; simp) | simp_all)) ?_
    refine RegJ.op (Op1.or (cy (I0 27 (.pick (.t 20) (.c (.p (.bool true))) (.t 26)))) rfl rfl (by first | exact hokO1 | exact hokO0 | simp)) ?_
    refine jq 1 [(0, vt a0), (7, eS 1 vbyte a0), (8, vi (a0.length : Int)), (9, vi v1), (3, vi v1), (4, vk .u8 (((ix a0 v1).toNat : Nat) : Int)), (5, vb (((decide ((97 : Int) ≤ (((ix a0 v1).toNat : Nat) : Int))) && (decide ((((ix a0 v1).toNat : Nat) : Int) ≤ (122 : Int)))) || ((decide ((65 : Int) ≤ (((ix a0 v1).toNat : Nat) : Int))) && (decide ((((ix a0 v1).toNat : Nat) : Int) ≤ (90 : Int))))))] [] ?_
    refine sj ?_
    refine rn 3 [(0, vt a0), (7, eS 1 vbyte a0), (8, vi (a0.length : Int)), (9, vi v1), (3, vi v1), (4, vk .u8 (((ix a0 v1).toNat : Nat) : Int)), (30, vb (!(((decide ((97 : Int) ≤ (((ix a0 v1).toNat : Nat) : Int))) && (decide ((((ix a0 v1).toNat : Nat) : Int) ≤ (122 : Int)))) || ((decide ((65 : Int) ≤ (((ix a0 v1).toNat : Nat) : Int))) && (decide ((((ix a0 v1).toNat : Nat) : Int) ≤ (90 : Int)))))))] [] ?_
    refine RegJ.op (Op1.valk (v := vi v1) _ _ (cy (IG 31 (.mov (.t 3)) 30 true)) rfl (by kernel_rfl) (fun hg => (.cons rfl .nil))) ?_
    refine RegJ.op (Op1.valg (v := vb (decide (v1 = 0))) _ _ (cy (IG 32 (.bin .eql false (.t 31) (.c (.p (.int .i64 0)))) 30 true)) rfl (fun hg => (n_eql (i := v1) (j := 0) rfl rfl)) (fun hg => (.cons hg (.cons rfl .nil)))) ?_
    refine RegJ.op (Op1.valk (v := vb (decide (v1 = 0))) _ _ (cy (IG 33 (.mov (.t 32)) 30 true)) rfl (by kernel_rfl) (fun hg => (.cons hg .nil))) ?_
    refine RegJ.op (Op1.valk (v := vk .u8 (((ix a0 v1).toNat : Nat) : Int)) _ _ (cy (IG 34 (.mov (.t 4)) 33 false)) rfl (by kernel_rfl) (fun hg => (.cons rfl .nil))) ?_
    refine RegJ.op (Op1.valk (v := vb ((((ix a0 v1).toNat : Nat) : Int) != (45 : Int))) _ _ (cy (IG 35 (.bin .neq false (.t 34) (.c (.p (.int .u8 45)))) 33 false)) rfl (by kernel_rfl) (fun hg => (.cons hg (.cons rfl .nil)))) ?_
    refine RegJ.op (Op1.valk (v := vb ((((ix a0 v1).toNat : Nat) : Int) != (45 : Int))) _ _ (cy (IG 36 (.mov (.t 35)) 33 false)) rfl (by kernel_rfl) (fun hg => (.cons hg .nil))) ?_
    refine RegJ.op (Op1.valk (v := vk .u8 (((ix a0 v1).toNat : Nat) : Int)) _ _ (cy (IG 37 (.mov (.t 4)) 36 true)) rfl (by kernel_rfl) (fun hg => (.cons rfl .nil))) ?_
    refine RegJ.op (Op1.valk (v := vb (decide ((((ix a0 v1).toNat : Nat) : Int) < (48 : Int)))) _ _ (cy (IG 38 (.bin .lss false (.t 37) (.c (.p (.int .u8 48)))) 36 true)) rfl (by kernel_rfl) (fun hg => (.cons hg (.cons rfl .nil)))) ?_
    refine RegJ.op (Op1.valk (v := vb (decide ((((ix a0 v1).toNat : Nat) : Int) < (48 : Int)))) _ _ (cy (IG 39 (.mov (.t 38)) 36 true)) rfl (by kernel_rfl) (fun hg => (.cons hg .nil))) ?_
    refine RegJ.op (Op1.valk (v := vk .u8 (((ix a0 v1).toNat : Nat) : Int)) _ _ (cy (IG 40 (.mov (.t 4)) 39 false)) rfl (by kernel_rfl) (fun hg => (.cons rfl .nil))) ?_
    refine RegJ.op (Op1.valk (v := vb (decide ((57 : Int) < (((ix a0 v1).toNat : Nat) : Int)))) _ _ (cy (IG 41 (.bin .gtr false (.t 40) (.c (.p (.int .u8 57)))) 39 false)) rfl (by kernel_rfl) (fun hg => (.cons hg (.cons rfl .nil)))) ?_
    refine RegJ.op (Op1.org (g := ((!(((decide ((97 : Int) ≤ (((ix a0 v1).toNat : Nat) : Int))) && (decide ((((ix a0 v1).toNat : Nat) : Int) ≤ (122 : Int)))) || ((decide ((65 : Int) ≤ (((ix a0 v1).toNat : Nat) : Int))) && (decide ((((ix a0 v1).toNat : Nat) : Int) ≤ (90 : Int)))))) && !(decide (v1 = 0))) && ((((ix a0 v1).toNat : Nat) : Int) != (45 : Int))) (cy (IG 42 (.pick (.t 39) (.c (.p (.bool true))) (.t 41)) 36 true)) rfl rfl rfl (fun hg => by first | exact hokO2 hg | exact hokO3 hg | exact hokO1 | exact hokO0 | (rw [hg]; simp) | simp_all)) ?_
    refine RegJ.op (Op1.andg (g := (!(((decide ((97 : Int) ≤ (((ix a0 v1).toNat : Nat) : Int))) && (decide ((((ix a0 v1).toNat : Nat) : Int) ≤ (122 : Int)))) || ((decide ((65 : Int) ≤ (((ix a0 v1).toNat : Nat) : Int))) && (decide ((((ix a0 v1).toNat : Nat) : Int) ≤ (90 : Int)))))) && !(decide (v1 = 0))) (cy (IG 43 (.pick (.t 36) (.t 42) (.c (.p (.bool false)))) 33 false)) rfl rfl rfl (fun hg => by first | exact hokA2 hg | exact hokA3 hg | exact hokA1 | exact hokA0 | (rw [hg]; simp) | simp_all)) ?_
    refine RegJ.op (Op1.org (g := !(((decide ((97 : Int) ≤ (((ix a0 v1).toNat : Nat) : Int))) && (decide ((((ix a0 v1).toNat : Nat) : Int) ≤ (122 : Int)))) || ((decide ((65 : Int) ≤ (((ix a0 v1).toNat : Nat) : Int))) && (decide ((((ix a0 v1).toNat : Nat) : Int) ≤ (90 : Int)))))) (cy (IG 44 (.pick (.t 33) (.c (.p (.bool true))) (.t 43)) 30 true)) rfl rfl rfl (fun hg => by first | exact hokO2 hg | exact hokO3 hg | exact hokO1 | exact hokO0 | (rw [hg]; simp) | simp_all)) ?_
    refine RegJ.op (Op1.and (cy (I0 45 (.pick (.t 30) (.t 44) (.c (.p (.bool false)))))) rfl rfl (by first | exact hokA1 | exact hokA0 | simp)) ?_
    refine jp [(0, vt a0), (7, eS 1 vbyte a0), (8, vi (a0.length : Int)), (9, vi v1), (45, vb ((!(((decide ((97 : Int) ≤ (((ix a0 v1).toNat : Nat) : Int))) && (decide ((((ix a0 v1).toNat : Nat) : Int) ≤ (122 : Int)))) || ((decide ((65 : Int) ≤ (((ix a0 v1).toNat : Nat) : Int))) && (decide ((((ix a0 v1).toNat : Nat) : Int) ≤ (90 : Int)))))) && ((decide (v1 = 0)) || (((((ix a0 v1).toNat : Nat) : Int) != (45 : Int)) && ((decide ((((ix a0 v1).toNat : Nat) : Int) < (48 : Int))) || (decide ((57 : Int) < (((ix a0 v1).toNat : Nat) : Int))))))))] ?_
    refine TriE.cond (b := (!(((decide ((97 : Int) ≤ (((ix a0 v1).toNat : Nat) : Int))) && (decide ((((ix a0 v1).toNat : Nat) : Int) ≤ (122 : Int)))) || ((decide ((65 : Int) ≤ (((ix a0 v1).toNat : Nat) : Int))) && (decide ((((ix a0 v1).toNat : Nat) : Int) ≤ (90 : Int)))))) && ((decide (v1 = 0)) || (((((ix a0 v1).toNat : Nat) : Int) != (45 : Int)) && ((decide ((((ix a0 v1).toNat : Nat) : Int) < (48 : Int))) || (decide ((57 : Int) < (((ix a0 v1).toNat : Nat) : Int))))))) rfl (fun c2 => ?_) (fun c2 => ?_)
    · have h := cond_t h c2
      refine sr [(2, vb false)] [] ?_
      refine TriE.ret ?_
      have h := Option.some.inj h
      subst h
      exact DoneS.ret (S' := ⟨[(2, vb false)], []⟩) Sees.refl rfl rfl
    have h := cond_f h c2
    refine TriE.skip ?_
    refine TriE.regJ ?_
    obtain ⟨c3, h⟩ := chk_some h
    refine jv (vi ((v1 + 1 : Nat) : Int)) (cy (I0 46 (.bin .add false (.t 9) (.c (.p (.int .i64 1)))))) (r_addn (i := v1) (j := 1) rfl rfl c3) rfl ?_
    refine jq 1 [(0, vt a0), (7, eS 1 vbyte a0), (8, vi (a0.length : Int)), (9, vi ((v1 + 1 : Nat) : Int))] [] ?_
    exact Vs.intro sy ⟨(v1 + 1), rfl, h⟩
  have h := cond_f h c1
  refine TriE.exit ?_
  exact Vs.intro sy ⟨(), rfl, h⟩
theorem restore_stocked_f1_ok (n : Nat) (a0 : Stocked) (a1 : Str) (r : Unit) (h : restore_stocked_f1 n a0 a1 = some r) : FnL Tryz.prog 158 [.agg [vt a0.Part, vi a0.Cents, vi a0.Count], .ptr 0 0 0] [some (.row 1 [vt a1])] (vb (a0.Part == a1)) [some (.row 1 [vt a1])] := by
  dsimp only [restore_stocked_f1] at h
  refine FnL.ofS (ts := [3]) Tryz.call158 Tryz.func158 rfl rfl (Nat.le_of_ble_eq_true rfl) (Nat.le_of_ble_eq_true rfl) (hall_of (.cons rfl .nil)) ?_
  refine sr [(1, .ptr 0 0 0), (2, .ptr 1 0 0)] [some (.row 1 [vt a1]), some (.row 3 [.agg [vt a0.Part, vi a0.Cents, vi a0.Count]])] ?_
  refine sr [(3, vb (a0.Part == a1))] [some (.row 1 [vt a1]), some (.row 3 [.agg [vt a0.Part, vi a0.Cents, vi a0.Count]])] ?_
  refine TriE.ret ?_
  have h := Option.some.inj h
  subst h
  exact DoneS.ret (S' := ⟨[(3, vb (a0.Part == a1))], [some (.row 1 [vt a1])]⟩) (sc [0] (by decide) (by kernel_rfl) (.cons rfl .nil) rfl rfl) rfl rfl
theorem slices_IndexFunc_Stocked_ok (n : Nat) (a0 : List Stocked) (a1 : Str) (r : Int) (h : slices_IndexFunc_Stocked n a0 a1 = some r) : FnL Tryz.prog 157 [eS 3 eStocked a0, .fn (.func 158) [] [.ptr 0 0 0]] [some (.row 1 [vt a1])] (vi r) [some (.row 1 [vt a1])] := by
  dsimp only [slices_IndexFunc_Stocked] at h
  refine FnL.ofS (ts := [4]) Tryz.call157 Tryz.func157 rfl rfl (Nat.le_of_ble_eq_true rfl) (Nat.le_of_ble_eq_true rfl) (hall_of (.cons rfl .nil)) ?_
  refine sr [(0, eS 3 eStocked a0), (1, .fn (.func 158) [] [.ptr 0 0 0])] [some (.row 1 [vt a1])] ?_
  refine TriE.seqK h (fun (_ : Unit) => St.mk [] [some (.row 1 [vt a1])]) ?_ ?_
  · rintro ⟨⟩ h
    refine sr [(4, vi (-1))] [some (.row 1 [vt a1])] ?_
    refine TriE.ret ?_
    have h := Option.some.inj h
    subst h
    exact DoneS.ret (S' := ⟨[(4, vi (-1))], [some (.row 1 [vt a1])]⟩) Sees.refl rfl rfl
  intro k1 h
  refine sj ?_
  refine rn 1 [(0, eS 3 eStocked a0), (1, .fn (.func 158) [] [.ptr 0 0 0]), (6, eS 3 eStocked a0)] [some (.row 1 [vt a1])] ?_
  refine jv (vi (a0.length : Int)) (cy (I0 7 (.len 0 (.t 6)))) (ok_len_m rfl) rfl ?_
  refine jq 1 [(0, eS 3 eStocked a0), (1, .fn (.func 158) [] [.ptr 0 0 0]), (7, vi (a0.length : Int)), (8, vi 0)] [some (.row 1 [vt a1])] ?_
  refine TriE.block ?_
  refine TriE.sees (S' := ⟨[(0, eS 3 eStocked a0), (1, .fn (.func 158) [] [.ptr 0 0 0]), (7, vi (a0.length : Int)), (8, vi 0)], [some (.row 1 [vt a1])]⟩) sy ?_
  refine TriE.loopN h (fun (v2 : Nat) => St.mk [(0, eS 3 eStocked a0), (1, .fn (.func 158) [] [.ptr 0 0 0]), (7, vi (a0.length : Int)), (8, vi v2)] [some (.row 1 [vt a1])]) rfl ?_
  clear h
  rintro back v2 h
  dsimp only [slices_IndexFunc_Stocked_L1] at h
  refine sj ?_
  refine jv (vb (decide (v2 < a0.length))) (cy (I0 9 (.bin .lss false (.t 8) (.t 7)))) (n_lss (i := v2) (j := a0.length) rfl rfl) rfl ?_
  refine jp [(0, eS 3 eStocked a0), (1, .fn (.func 158) [] [.ptr 0 0 0]), (7, vi (a0.length : Int)), (8, vi v2), (9, vb (decide (v2 < a0.length)))] ?_
  refine TriE.seq ?_
  refine TriE.cond (b := decide (v2 < a0.length)) rfl (fun c1 => ?_) (fun c1 => ?_)
  · have h := cond_t h c1
    refine TriE.skip ?_
    refine TriE.seq ?_
    refine TriE.block ?_
    refine sr [(0, eS 3 eStocked a0), (1, .fn (.func 158) [] [.ptr 0 0 0]), (7, vi (a0.length : Int)), (8, vi v2), (5, vi v2)] [some (.row 1 [vt a1])] ?_
    refine sj ?_
    refine rn 3 [(0, eS 3 eStocked a0), (1, .fn (.func 158) [] [.ptr 0 0 0]), (7, vi (a0.length : Int)), (8, vi v2), (5, vi v2), (11, .fn (.func 158) [] [.ptr 0 0 0]), (12, eS 3 eStocked a0), (13, vi v2)] [some (.row 1 [vt a1])] ?_
    refine jv (.fptr 3 (List.map eStocked a0) v2 0) (cy (I0 14 (.iaddr 3 (.t 12) (.t 13)))) (ok_iaddr_m (j := v2) rfl rfl rfl c1) rfl ?_
    refine jv (.agg [vt ((ix a0 v2).Part), vi ((ix a0 v2).Cents), vi ((ix a0 v2).Count)]) (cy (I0 15 (.load true 3 (.t 14)))) (ok_load_fm (v := .agg [vt ((ix a0 v2).Part), vi ((ix a0 v2).Cents), vi ((ix a0 v2).Count)]) rfl c1 rfl) rfl ?_
    obtain ⟨y3, hy3, h⟩ := bind_some h
    refine RegJ.op (Op1.dyn (y' := vb ((ix a0 v2).Part == a1)) (obx := [some (.row 1 [vt a1])]) (oby := [some (.row 1 [vt a1])]) (ob2 := [some (.row 1 [vt a1])]) _ _ _ (cy (I0 16 (.dyn (.t 11) [(.t 15)]))) rfl rfl (restore_stocked_f1_ok n (ix a0 v2) a1 y3 hy3) [0] (by kernel_rfl) (.cons rfl (.cons rfl .nil)) (by kernel_rfl) (by kernel_rfl) (.cons rfl .nil) (by kernel_rfl) (.cons rfl .nil) (by kernel_rfl)) ?_
    refine jp [(0, eS 3 eStocked a0), (1, .fn (.func 158) [] [.ptr 0 0 0]), (7, vi (a0.length : Int)), (8, vi v2), (5, vi v2), (16, vb ((ix a0 v2).Part == a1))] ?_
    refine TriE.cond (b := ((ix a0 v2).Part == a1)) rfl (fun c2 => ?_) (fun c2 => ?_)
    · have h := cond_t h c2
      refine sr [(4, vi v2)] [some (.row 1 [vt a1])] ?_
      refine TriE.ret ?_
      have h := Option.some.inj h
      subst h
      exact DoneS.ret (S' := ⟨[(4, vi v2)], [some (.row 1 [vt a1])]⟩) Sees.refl rfl rfl
    have h := cond_f h c2
    refine TriE.skip ?_
    refine TriE.regJ ?_
    obtain ⟨c3, h⟩ := chk_some h
    refine jv (vi ((v2 + 1 : Nat) : Int)) (cy (I0 18 (.bin .add false (.t 8) (.c (.p (.int .i64 1)))))) (r_addn (i := v2) (j := 1) rfl rfl c3) rfl ?_
    refine jq 1 [(0, eS 3 eStocked a0), (1, .fn (.func 158) [] [.ptr 0 0 0]), (7, vi (a0.length : Int)), (8, vi ((v2 + 1 : Nat) : Int))] [some (.row 1 [vt a1])] ?_
    exact Vs.intro sy ⟨(v2 + 1), rfl, h⟩
  have h := cond_f h c1
  refine TriE.exit ?_
  exact Vs.intro sy ⟨(), rfl, h⟩
theorem restore_stocked_ok (n : Nat) (a0 : List Stocked) (a1 : Str) (r : Int) (h : restore_stocked n a0 a1 = some r) : FnL Tryz.prog 90 [eS 3 eStocked a0, vt a1] [] (vi r) [] := by
  dsimp only [restore_stocked] at h
  refine FnL.ofS (ts := [4]) Tryz.call90 Tryz.func90 rfl rfl (Nat.le_of_ble_eq_true rfl) (Nat.le_of_ble_eq_true rfl) (fun j h => absurd h (Nat.not_lt_zero j)) ?_
  refine sr [(0, eS 3 eStocked a0), (3, .ptr 0 0 0)] [some (.row 1 [vt a1])] ?_
  refine sj ?_
  refine rn 2 [(5, eS 3 eStocked a0), (6, .fn (.func 158) [] [.ptr 0 0 0])] [some (.row 1 [vt a1])] ?_
  obtain ⟨y1, hy1, h⟩ := bind_some h
  refine RegJ.op (Op1.call (y' := vi y1) (obx := [some (.row 1 [vt a1])]) (oby := [some (.row 1 [vt a1])]) (ob2 := [some (.row 1 [vt a1])]) _ _ (cy (I0 7 (.call 157 [(.t 5), (.t 6)]))) rfl (slices_IndexFunc_Stocked_ok n a0 a1 y1 hy1) [0] (by kernel_rfl) (.cons rfl (.cons rfl (.cons rfl .nil))) (by kernel_rfl) (by kernel_rfl) (.cons rfl .nil) (by kernel_rfl) (.cons rfl .nil) (by kernel_rfl)) ?_
  refine jq 1 [(4, vi y1)] [some (.row 1 [vt a1])] ?_
  refine TriE.ret ?_
  have h := Option.some.inj h
  subst h
  exact DoneS.ret (S' := ⟨[(4, vi y1)], []⟩) (sc [] (by decide) (by kernel_rfl) ObRen.nil rfl rfl) rfl rfl
theorem restore_within_ok (n : Nat) (a0 : Int) (a1 : Int) (a2 : Int) (r : Unit) (h : restore_within n a0 a1 a2 = some r) : FnL Tryz.prog 91 [vi a0, vi a1, vi a2] [] (vb ((decide (a1 ≤ a0)) && (decide (a0 ≤ a2)))) [] := by
  dsimp only [restore_within] at h
  refine FnL.ofS (ts := [6]) Tryz.call91 Tryz.func91 rfl rfl (Nat.le_of_ble_eq_true rfl) (Nat.le_of_ble_eq_true rfl) (fun j h => absurd h (Nat.not_lt_zero j)) ?_
  refine sr [(0, vi a0), (1, vi a1), (2, vi a2)] [] ?_
  refine sj ?_
  refine rn 4 [(0, vi a0), (2, vi a2), (10, vb (decide (a1 ≤ a0)))] [] ?_
  refine RegJ.op (Op1.valk (v := vi a0) _ _ (cy (IG 11 (.mov (.t 0)) 10 true)) rfl (by kernel_rfl) (fun hg => (.cons rfl .nil))) ?_
  refine RegJ.op (Op1.valk (v := vi a2) _ _ (cy (IG 12 (.mov (.t 2)) 10 true)) rfl (by kernel_rfl) (fun hg => (.cons rfl .nil))) ?_
  refine RegJ.op (Op1.valk (v := vb (decide (a0 ≤ a2))) _ _ (cy (IG 13 (.bin .leq false (.t 11) (.t 12)) 10 true)) rfl (by kernel_rfl) (fun hg => (.cons hg (.cons hg .nil)))) ?_
  refine RegJ.op (Op1.and (cy (I0 14 (.pick (.t 10) (.t 13) (.c (.p (.bool false)))))) rfl rfl (by first | exact hokA1 | exact hokA0 | simp)) ?_
  refine jq 1 [(6, vb ((decide (a1 ≤ a0)) && (decide (a0 ≤ a2))))] [] ?_
  refine TriE.ret ?_
  have h := Option.some.inj h
  subst h
  exact DoneS.ret (S' := ⟨[(6, vb ((decide (a1 ≤ a0)) && (decide (a0 ≤ a2))))], []⟩) Sees.refl rfl rfl
theorem restore_CheckStock_ok (n : Nat) (a0 : List Stocked) (r : Int) (h : restore_CheckStock n a0 = some r) : FnL Tryz.prog 22 [eS 3 eStocked a0] [] (vi r) [] := by
  dsimp only [restore_CheckStock] at h
  refine FnL.ofS (ts := [2]) Tryz.call22 Tryz.func22 rfl rfl (Nat.le_of_ble_eq_true rfl) (Nat.le_of_ble_eq_true rfl) (fun j h => absurd h (Nat.not_lt_zero j)) ?_
  refine sr [(0, eS 3 eStocked a0)] [] ?_
  refine TriE.seq ?_
  refine sj ?_
  refine rn 1 [(0, eS 3 eStocked a0), (5, eS 3 eStocked a0)] [] ?_
  refine jv (vi (a0.length : Int)) (cy (I0 6 (.len 0 (.t 5)))) (ok_len_m rfl) rfl ?_
  refine jv (vb (decide (60 < a0.length))) (cy (I0 7 (.bin .gtr false (.t 6) (.c (.p (.int .i64 60)))))) (n_gtr (i := a0.length) (j := 60) rfl rfl) rfl ?_
  refine jp [(0, eS 3 eStocked a0), (7, vb (decide (60 < a0.length)))] ?_
  refine TriE.cond (b := decide (60 < a0.length)) rfl (fun c1 => ?_) (fun c1 => ?_)
  · have h := cond_t h c1
    refine sr [(2, vi 8)] [] ?_
    refine TriE.ret ?_
    have h := Option.some.inj h
    subst h
    exact DoneS.ret (S' := ⟨[(2, vi 8)], []⟩) Sees.refl rfl rfl
  have h := cond_f h c1
  refine TriE.skip ?_
  refine TriE.seqK h (fun (_ : Unit) => St.mk [] []) ?_ ?_
  · rintro ⟨⟩ h
    refine sr [(2, vi 0)] [] ?_
    refine TriE.ret ?_
    have h := Option.some.inj h
    subst h
    exact DoneS.ret (S' := ⟨[(2, vi 0)], []⟩) Sees.refl rfl rfl
  intro k1 h
  refine sj ?_
  refine rn 1 [(0, eS 3 eStocked a0), (8, eS 3 eStocked a0)] [] ?_
  refine jv (vi (a0.length : Int)) (cy (I0 9 (.len 0 (.t 8)))) (ok_len_m rfl) rfl ?_
  refine jq 1 [(0, eS 3 eStocked a0), (8, eS 3 eStocked a0), (9, vi (a0.length : Int)), (10, vi 0)] [] ?_
  refine TriE.block ?_
  refine TriE.sees (S' := ⟨[(0, eS 3 eStocked a0), (8, eS 3 eStocked a0), (9, vi (a0.length : Int)), (10, vi 0)], []⟩) sy ?_
  refine TriE.loopN h (fun (v5 : Nat) => St.mk [(0, eS 3 eStocked a0), (8, eS 3 eStocked a0), (9, vi (a0.length : Int)), (10, vi v5)] []) rfl ?_
  clear h
  rintro back v5 h
  dsimp only [restore_CheckStock_L1] at h
  refine sj ?_
  refine jv (vb (decide (v5 < a0.length))) (cy (I0 11 (.bin .lss false (.t 10) (.t 9)))) (n_lss (i := v5) (j := a0.length) rfl rfl) rfl ?_
  refine jp [(0, eS 3 eStocked a0), (8, eS 3 eStocked a0), (9, vi (a0.length : Int)), (10, vi v5), (11, vb (decide (v5 < a0.length)))] ?_
  refine TriE.seq ?_
  refine TriE.cond (b := decide (v5 < a0.length)) rfl (fun c2 => ?_) (fun c2 => ?_)
  · have h := cond_t h c2
    refine TriE.skip ?_
    refine TriE.seq ?_
    refine TriE.block ?_
    refine sj ?_
    refine rn 1 [(0, eS 3 eStocked a0), (8, eS 3 eStocked a0), (9, vi (a0.length : Int)), (10, vi v5), (12, vi v5)] [] ?_
    refine jv (.fptr 3 (List.map eStocked a0) v5 0) (cy (I0 13 (.iaddr 3 (.t 8) (.t 10)))) (ok_iaddr_m (j := v5) rfl rfl rfl c2) rfl ?_
    refine jv (.agg [vt ((ix a0 v5).Part), vi ((ix a0 v5).Cents), vi ((ix a0 v5).Count)]) (cy (I0 14 (.load true 3 (.t 13)))) (ok_load_fm (v := .agg [vt ((ix a0 v5).Part), vi ((ix a0 v5).Cents), vi ((ix a0 v5).Count)]) rfl c2 rfl) rfl ?_
    refine jq 3 [(0, eS 3 eStocked a0), (8, eS 3 eStocked a0), (9, vi (a0.length : Int)), (10, vi v5), (4, .ptr 0 0 0), (3, vi v5)] [some (.row 3 [.agg [vt ((ix a0 v5).Part), vi ((ix a0 v5).Cents), vi ((ix a0 v5).Count)]])] ?_
    refine TriE.block ?_
    refine sj ?_
    refine rn 2 [(0, eS 3 eStocked a0), (8, eS 3 eStocked a0), (9, vi (a0.length : Int)), (10, vi v5), (4, .ptr 0 0 0), (3, vi v5), (17, vt ((ix a0 v5).Part))] [some (.row 3 [.agg [vt ((ix a0 v5).Part), vi ((ix a0 v5).Cents), vi ((ix a0 v5).Count)]])] ?_
    obtain ⟨y6, hy6, h⟩ := bind_some h
    refine RegJ.op (Op1.call (y' := vb y6) (obx := []) (oby := []) (ob2 := [some (.row 3 [.agg [vt ((ix a0 v5).Part), vi ((ix a0 v5).Cents), vi ((ix a0 v5).Count)]])]) _ _ (cy (I0 18 (.call 89 [(.t 17)]))) rfl (restore_isName_ok n ((ix a0 v5).Part) y6 hy6) [] (by kernel_rfl) (.cons rfl (.cons rfl .nil)) (by kernel_rfl) (by kernel_rfl) ObsRen.nil (by kernel_rfl) ObsRen.nil (by kernel_rfl)) ?_
    refine jq 2 [(0, eS 3 eStocked a0), (8, eS 3 eStocked a0), (9, vi (a0.length : Int)), (10, vi v5), (4, .ptr 0 0 0), (3, vi v5), (15, vb (!y6))] [some (.row 3 [.agg [vt ((ix a0 v5).Part), vi ((ix a0 v5).Cents), vi ((ix a0 v5).Count)]])] ?_
    refine TriE.cond (b := !y6) rfl (fun c3 => ?_) (fun c3 => ?_)
    · have h := cond_t h c3
      refine sr [(2, vi 4)] [some (.row 3 [.agg [vt ((ix a0 v5).Part), vi ((ix a0 v5).Cents), vi ((ix a0 v5).Count)]])] ?_
      refine TriE.ret ?_
      have h := Option.some.inj h
      subst h
      exact DoneS.ret (S' := ⟨[(2, vi 4)], []⟩) (sc [] (by decide) (by kernel_rfl) ObRen.nil rfl rfl) rfl rfl
    have h := cond_f h c3
    refine TriE.seq ?_
    refine TriE.sees (Sees.less (fr' := [(0, eS 3 eStocked a0), (8, eS 3 eStocked a0), (9, vi (a0.length : Int)), (10, vi v5), (4, .ptr 0 0 0), (3, vi v5)]) (.cons rfl (.cons rfl (.cons rfl (.cons rfl (.cons rfl (.cons rfl .nil))))))) ?_
    refine TriE.draw (by kernel_rfl) ?_
    refine RegD.run 2 [(22, vi v5), (21, eS 3 eStocked a0), (0, eS 3 eStocked a0), (8, eS 3 eStocked a0), (9, vi (a0.length : Int)), (10, vi v5), (4, .ptr 0 0 0), (3, vi v5)] [some (.row 3 [.agg [vt ((ix a0 v5).Part), vi ((ix a0 v5).Cents), vi ((ix a0 v5).Count)]]), none, none] (by kernel_rfl) ?_
    obtain ⟨c4, h⟩ := chk_some h
    refine dv (eS 3 eStocked (List.take v5 a0)) (cy (I0 23 (.slc 3 (.t 21) none (some (.t 22)) none))) (ok_slc_hi (j := v5) rfl rfl rfl c4) rfl ?_
    refine RegD.run 2 [(25, vt ((ix a0 v5).Part)), (24, .ptr 0 0 0), (23, eS 3 eStocked (List.take v5 a0)), (22, vi v5), (21, eS 3 eStocked a0), (0, eS 3 eStocked a0), (8, eS 3 eStocked a0), (9, vi (a0.length : Int)), (10, vi v5), (4, .ptr 0 0 0), (3, vi v5)] [some (.row 3 [.agg [vt ((ix a0 v5).Part), vi ((ix a0 v5).Cents), vi ((ix a0 v5).Count)]]), none, none, none, none, none] (by kernel_rfl) ?_
    obtain ⟨y7, hy7, h⟩ := bind_some h
    refine RegD.op (OpD.call (y' := vi y7) (obx := []) (oby := []) (ob2 := [some (.row 3 [.agg [vt ((ix a0 v5).Part), vi ((ix a0 v5).Cents), vi ((ix a0 v5).Count)]]), none, none, none, none, none, none]) (tch := []) 0 _ _ (cy (I0 26 (.call 90 [(.t 23), (.t 25)]))) (restore_stocked_ok n (List.take v5 a0) ((ix a0 v5).Part) y7 hy7) [] (by kernel_rfl) (.cons rfl (.cons rfl (.cons rfl .nil))) (by kernel_rfl) (by kernel_rfl) ObsRen.nil (by kernel_rfl) ObsRen.nil (by kernel_rfl) rfl (.inr ⟨rfl, rfl⟩)) ?_
    refine RegD.run 2 [(20, vb (decide ((0 : Int) ≤ y7))), (27, vb (decide ((0 : Int) ≤ y7))), (26, vi y7), (25, vt ((ix a0 v5).Part)), (24, .ptr 0 0 0), (23, eS 3 eStocked (List.take v5 a0)), (22, vi v5), (21, eS 3 eStocked a0), (0, eS 3 eStocked a0), (8, eS 3 eStocked a0), (9, vi (a0.length : Int)), (10, vi v5), (4, .ptr 0 0 0), (3, vi v5)] [some (.row 3 [.agg [vt ((ix a0 v5).Part), vi ((ix a0 v5).Cents), vi ((ix a0 v5).Count)]]), none, none, none, none, none, none, none, none] (by kernel_rfl) ?_
    refine RegD.done rfl (by kernel_rfl) (S' := ⟨[(0, eS 3 eStocked a0), (8, eS 3 eStocked a0), (9, vi (a0.length : Int)), (10, vi v5), (4, .ptr 0 0 0), (20, vb (decide ((0 : Int) ≤ y7)))], [some (.row 3 [.agg [vt ((ix a0 v5).Part), vi ((ix a0 v5).Cents), vi ((ix a0 v5).Count)]])]⟩) (sc [0] (by decide) (by kernel_rfl) (.cons rfl .nil) rfl rfl) ?_
    refine TriE.cond (b := decide ((0 : Int) ≤ y7)) rfl (fun c5 => ?_) (fun c5 => ?_)
    · have h := cond_t h c5
      refine sr [(2, vi 5)] [some (.row 3 [.agg [vt ((ix a0 v5).Part), vi ((ix a0 v5).Cents), vi ((ix a0 v5).Count)]])] ?_
      refine TriE.ret ?_
      have h := Option.some.inj h
      subst h
      exact DoneS.ret (S' := ⟨[(2, vi 5)], []⟩) (sc [] (by decide) (by kernel_rfl) ObRen.nil rfl rfl) rfl rfl
    have h := cond_f h c5
    refine sj ?_
    refine rn 2 [(0, eS 3 eStocked a0), (8, eS 3 eStocked a0), (9, vi (a0.length : Int)), (10, vi v5), (4, .ptr 0 0 0), (30, vi ((ix a0 v5).Cents))] [some (.row 3 [.agg [vt ((ix a0 v5).Part), vi ((ix a0 v5).Cents), vi ((ix a0 v5).Count)]])] ?_
    obtain ⟨y8, hy8, h⟩ := bind_some h
    refine RegJ.op (Op1.call (y' := vb ((decide (0 ≤ ((ix a0 v5).Cents))) && (decide (((ix a0 v5).Cents) ≤ 1000000000)))) (obx := []) (oby := []) (ob2 := [some (.row 3 [.agg [vt ((ix a0 v5).Part), vi ((ix a0 v5).Cents), vi ((ix a0 v5).Count)]])]) _ _ (cy (I0 31 (.call 91 [(.t 30), (.c (.p (.int .i64 0))), (.c (.p (.int .i64 1000000000)))]))) rfl (restore_within_ok n ((ix a0 v5).Cents) 0 1000000000 y8 hy8) [] (by kernel_rfl) (.cons rfl (.cons rfl (.cons rfl (.cons rfl .nil)))) (by kernel_rfl) (by kernel_rfl) ObsRen.nil (by kernel_rfl) ObsRen.nil (by kernel_rfl)) ?_
    refine rn 2 [(0, eS 3 eStocked a0), (8, eS 3 eStocked a0), (9, vi (a0.length : Int)), (10, vi v5), (4, .ptr 0 0 0), (33, vb (!((decide (0 ≤ ((ix a0 v5).Cents))) && (decide (((ix a0 v5).Cents) ≤ 1000000000)))))] [some (.row 3 [.agg [vt ((ix a0 v5).Part), vi ((ix a0 v5).Cents), vi ((ix a0 v5).Count)]])] ?_
    refine RegJ.op (Op1.valk (v := .ptr 0 0 2) _ _ (cy (IG 34 (.faddr 2 (.t 4)) 33 false)) rfl (by kernel_rfl) (fun hg => (.cons rfl .nil))) ?_
    refine RegJ.op (Op1.valk (v := vi ((ix a0 v5).Count)) _ _ (cy (IG 35 (.load false 1 (.t 34)) 33 false)) rfl (by kernel_rfl) (fun hg => (.cons hg .nil))) ?_
    obtain ⟨y9, hy9, h⟩ := bind_some h
    refine RegJ.op (Op1.callg (g := !(!((decide (0 ≤ ((ix a0 v5).Cents))) && (decide (((ix a0 v5).Cents) ≤ 1000000000))))) (y' := vb ((decide (0 ≤ ((ix a0 v5).Count))) && (decide (((ix a0 v5).Count) ≤ 10000)))) (obx := []) _ _ (cy (IG 36 (.call 91 [(.t 35), (.c (.p (.int .i64 0))), (.c (.p (.int .i64 10000)))]) 33 false)) rfl (fun hg => restore_within_ok n ((ix a0 v5).Count) 0 10000 y9 (gcall_some hy9 hg)) [] (fun hg => by kernel_rfl) (fun hg => (.cons rfl (.cons hg (.cons rfl (.cons rfl .nil))))) (by kernel_rfl) (by kernel_rfl) ObsRen.nil (by kernel_rfl) (by kernel_rfl)) ?_
    refine RegJ.op (Op1.valk (v := vb (!((decide (0 ≤ ((ix a0 v5).Count))) && (decide (((ix a0 v5).Count) ≤ 10000))))) _ _ (cy (IG 37 (.un .not (.t 36)) 33 false)) rfl (by kernel_rfl) (fun hg => (.cons hg .nil))) ?_
    refine RegJ.op (Op1.or (cy (I0 38 (.pick (.t 33) (.c (.p (.bool true))) (.t 37)))) rfl rfl (by first | exact hokO1 | exact hokO0 | simp)) ?_
    refine jq 1 [(0, eS 3 eStocked a0), (8, eS 3 eStocked a0), (9, vi (a0.length : Int)), (10, vi v5), (28, vb ((!((decide (0 ≤ ((ix a0 v5).Cents))) && (decide (((ix a0 v5).Cents) ≤ 1000000000)))) || (!((decide (0 ≤ ((ix a0 v5).Count))) && (decide (((ix a0 v5).Count) ≤ 10000))))))] [some (.row 3 [.agg [vt ((ix a0 v5).Part), vi ((ix a0 v5).Cents), vi ((ix a0 v5).Count)]])] ?_
    refine TriE.cond (b := (!((decide (0 ≤ ((ix a0 v5).Cents))) && (decide (((ix a0 v5).Cents) ≤ 1000000000)))) || (!((decide (0 ≤ ((ix a0 v5).Count))) && (decide (((ix a0 v5).Count) ≤ 10000))))) rfl (fun c6 => ?_) (fun c6 => ?_)
    · have h := cond_t h c6
      refine sr [(2, vi 2)] [some (.row 3 [.agg [vt ((ix a0 v5).Part), vi ((ix a0 v5).Cents), vi ((ix a0 v5).Count)]])] ?_
      refine TriE.ret ?_
      have h := Option.some.inj h
      subst h
      exact DoneS.ret (S' := ⟨[(2, vi 2)], []⟩) (sc [] (by decide) (by kernel_rfl) ObRen.nil rfl rfl) rfl rfl
    have h := cond_f h c6
    refine TriE.skip ?_
    refine TriE.regJ ?_
    obtain ⟨c7, h⟩ := chk_some h
    refine jv (vi ((v5 + 1 : Nat) : Int)) (cy (I0 39 (.bin .add false (.t 10) (.c (.p (.int .i64 1)))))) (r_addn (i := v5) (j := 1) rfl rfl c7) rfl ?_
    refine jq 1 [(0, eS 3 eStocked a0), (8, eS 3 eStocked a0), (9, vi (a0.length : Int)), (10, vi ((v5 + 1 : Nat) : Int))] [some (.row 3 [.agg [vt ((ix a0 v5).Part), vi ((ix a0 v5).Cents), vi ((ix a0 v5).Count)]])] ?_
    exact Vs.intro (sc [] (by decide) (by kernel_rfl) ObRen.nil rfl rfl) ⟨(v5 + 1), rfl, h⟩
  have h := cond_f h c2
  refine TriE.exit ?_
  exact Vs.intro sy ⟨(), rfl, h⟩
theorem restore_shelf_take_ok (n : Nat) (a0 : List Stocked) (a1 : List Int) (a2 : PartPromise) (r : Int × (List Int)) (h : restore_shelf_take n a0 a1 a2 = some r) : FnL Tryz.prog 111 [.ptr 0 0 0, .agg [vt a2.Instrument, vt a2.Part, vi a2.Count]] [some (.row 2 [.agg [eS 3 eStocked a0, .own 1 0 a1.length]]), some (.row 1 (List.map vi a1))] (vi r.1) [some (.row 2 [.agg [eS 3 eStocked a0, .own 1 0 a1.length]]), some (.row 1 (List.map vi r.2))] := by
  dsimp only [restore_shelf_take] at h
  refine FnL.ofS (ts := [4]) Tryz.call111 Tryz.func111 rfl rfl (Nat.le_of_ble_eq_true rfl) (Nat.le_of_ble_eq_true rfl) (hall_of (.cons rfl (.cons rfl .nil))) ?_
  refine sr [(0, .ptr 0 0 0), (3, .ptr 2 0 0)] [some (.row 2 [.agg [eS 3 eStocked a0, .own 1 0 a1.length]]), some (.row 1 (List.map vi a1)), some (.row 3 [.agg [vt a2.Instrument, vt a2.Part, vi a2.Count]])] ?_
  refine TriE.seq ?_
  refine TriE.sees (Sees.less (fr' := [(0, .ptr 0 0 0), (3, .ptr 2 0 0)]) (.cons rfl (.cons rfl .nil))) ?_
  refine TriE.draw (by kernel_rfl) ?_
  refine RegD.run 6 [(11, vt a2.Part), (10, .ptr 2 0 1), (9, eS 3 eStocked a0), (8, .ptr 0 0 0), (7, .ptr 0 0 0), (6, .ptr 0 0 0), (0, .ptr 0 0 0), (3, .ptr 2 0 0)] [some (.row 2 [.agg [eS 3 eStocked a0, .own 1 0 a1.length]]), some (.row 1 (List.map vi a1)), some (.row 3 [.agg [vt a2.Instrument, vt a2.Part, vi a2.Count]]), none, none, none, none, none, none] (by kernel_rfl) ?_
  obtain ⟨y1, hy1, h⟩ := bind_some h
  refine RegD.op (OpD.call (y' := vi y1) (obx := []) (oby := []) (ob2 := [some (.row 2 [.agg [eS 3 eStocked a0, .own 1 0 a1.length]]), some (.row 1 (List.map vi a1)), some (.row 3 [.agg [vt a2.Instrument, vt a2.Part, vi a2.Count]]), none, none, none, none, none, none, none]) (tch := []) 0 _ _ (cy (I0 12 (.call 90 [(.t 9), (.t 11)]))) (restore_stocked_ok n a0 a2.Part y1 hy1) [] (by kernel_rfl) (.cons rfl (.cons rfl (.cons rfl .nil))) (by kernel_rfl) (by kernel_rfl) ObsRen.nil (by kernel_rfl) ObsRen.nil (by kernel_rfl) rfl (.inr ⟨rfl, rfl⟩)) ?_
  refine RegD.run 1 [(5, vi y1), (12, vi y1), (11, vt a2.Part), (10, .ptr 2 0 1), (9, eS 3 eStocked a0), (8, .ptr 0 0 0), (7, .ptr 0 0 0), (6, .ptr 0 0 0), (0, .ptr 0 0 0), (3, .ptr 2 0 0)] [some (.row 2 [.agg [eS 3 eStocked a0, .own 1 0 a1.length]]), some (.row 1 (List.map vi a1)), some (.row 3 [.agg [vt a2.Instrument, vt a2.Part, vi a2.Count]]), none, none, none, none, none, none, none, none] (by kernel_rfl) ?_
  refine RegD.done rfl (by kernel_rfl) (S' := ⟨[(0, .ptr 0 0 0), (3, .ptr 2 0 0), (5, vi y1)], [some (.row 2 [.agg [eS 3 eStocked a0, .own 1 0 a1.length]]), some (.row 1 (List.map vi a1)), some (.row 3 [.agg [vt a2.Instrument, vt a2.Part, vi a2.Count]])]⟩) (sc [0, 1, 2] (by decide) (by kernel_rfl) (.cons rfl (obRen_row vi_frz rfl (.cons rfl .nil))) rfl rfl) ?_
  refine TriE.seq ?_
  refine TriE.block ?_
  refine sj ?_
  refine rn 2 [(0, .ptr 0 0 0), (3, .ptr 2 0 0), (5, vi y1), (15, vt a2.Instrument)] [some (.row 2 [.agg [eS 3 eStocked a0, .own 1 0 a1.length]]), some (.row 1 (List.map vi a1)), some (.row 3 [.agg [vt a2.Instrument, vt a2.Part, vi a2.Count]])] ?_
  obtain ⟨y2, hy2, h⟩ := bind_some h
  refine RegJ.op (Op1.call (y' := vb y2) (obx := []) (oby := []) (ob2 := [some (.row 2 [.agg [eS 3 eStocked a0, .own 1 0 a1.length]]), some (.row 1 (List.map vi a1)), some (.row 3 [.agg [vt a2.Instrument, vt a2.Part, vi a2.Count]])]) _ _ (cy (I0 16 (.call 89 [(.t 15)]))) rfl (restore_isName_ok n a2.Instrument y2 hy2) [] (by kernel_rfl) (.cons rfl (.cons rfl .nil)) (by kernel_rfl) (by kernel_rfl) ObsRen.nil (by kernel_rfl) ObsRen.nil (by kernel_rfl)) ?_
  refine jq 2 [(0, .ptr 0 0 0), (3, .ptr 2 0 0), (5, vi y1), (13, vb (!y2))] [some (.row 2 [.agg [eS 3 eStocked a0, .own 1 0 a1.length]]), some (.row 1 (List.map vi a1)), some (.row 3 [.agg [vt a2.Instrument, vt a2.Part, vi a2.Count]])] ?_
  refine TriE.cond (b := !y2) rfl (fun c1 => ?_) (fun c1 => ?_)
  · have h := cond_t h c1
    refine sr [(4, vi 4)] [some (.row 2 [.agg [eS 3 eStocked a0, .own 1 0 a1.length]]), some (.row 1 (List.map vi a1)), some (.row 3 [.agg [vt a2.Instrument, vt a2.Part, vi a2.Count]])] ?_
    refine TriE.ret ?_
    have h := Option.some.inj h
    subst h
    exact DoneS.ret (S' := ⟨[(4, vi 4)], [some (.row 2 [.agg [eS 3 eStocked a0, .own 1 0 a1.length]]), some (.row 1 (List.map vi a1))]⟩) (sc [0, 1] (by decide) (by kernel_rfl) (.cons rfl (obRen_row vi_frz rfl .nil)) rfl rfl) rfl rfl
  have h := cond_f h c1
  refine sr [(0, .ptr 0 0 0), (3, .ptr 2 0 0), (5, vi y1), (18, vb (decide (y1 < (0 : Int))))] [some (.row 2 [.agg [eS 3 eStocked a0, .own 1 0 a1.length]]), some (.row 1 (List.map vi a1)), some (.row 3 [.agg [vt a2.Instrument, vt a2.Part, vi a2.Count]])] ?_
  refine TriE.cond (b := decide (y1 < (0 : Int))) rfl (fun c2 => ?_) (fun c2 => ?_)
  · have h := cond_t h c2
    refine sr [(4, vi 6)] [some (.row 2 [.agg [eS 3 eStocked a0, .own 1 0 a1.length]]), some (.row 1 (List.map vi a1)), some (.row 3 [.agg [vt a2.Instrument, vt a2.Part, vi a2.Count]])] ?_
    refine TriE.ret ?_
    have h := Option.some.inj h
    subst h
    exact DoneS.ret (S' := ⟨[(4, vi 6)], [some (.row 2 [.agg [eS 3 eStocked a0, .own 1 0 a1.length]]), some (.row 1 (List.map vi a1))]⟩) (sc [0, 1] (by decide) (by kernel_rfl) (.cons rfl (obRen_row vi_frz rfl .nil)) rfl rfl) rfl rfl
  have h := cond_f h c2
  refine sj ?_
  refine rn 2 [(0, .ptr 0 0 0), (3, .ptr 2 0 0), (5, vi y1), (23, vi a2.Count)] [some (.row 2 [.agg [eS 3 eStocked a0, .own 1 0 a1.length]]), some (.row 1 (List.map vi a1)), some (.row 3 [.agg [vt a2.Instrument, vt a2.Part, vi a2.Count]])] ?_
  obtain ⟨y3, hy3, h⟩ := bind_some h
  refine RegJ.op (Op1.call (y' := vb ((decide (1 ≤ a2.Count)) && (decide (a2.Count ≤ 10000)))) (obx := []) (oby := []) (ob2 := [some (.row 2 [.agg [eS 3 eStocked a0, .own 1 0 a1.length]]), some (.row 1 (List.map vi a1)), some (.row 3 [.agg [vt a2.Instrument, vt a2.Part, vi a2.Count]])]) _ _ (cy (I0 24 (.call 91 [(.t 23), (.c (.p (.int .i64 1))), (.c (.p (.int .i64 10000)))]))) rfl (restore_within_ok n a2.Count 1 10000 y3 hy3) [] (by kernel_rfl) (.cons rfl (.cons rfl (.cons rfl (.cons rfl .nil)))) (by kernel_rfl) (by kernel_rfl) ObsRen.nil (by kernel_rfl) ObsRen.nil (by kernel_rfl)) ?_
  refine jq 2 [(0, .ptr 0 0 0), (3, .ptr 2 0 0), (5, vi y1), (21, vb (!((decide (1 ≤ a2.Count)) && (decide (a2.Count ≤ 10000)))))] [some (.row 2 [.agg [eS 3 eStocked a0, .own 1 0 a1.length]]), some (.row 1 (List.map vi a1)), some (.row 3 [.agg [vt a2.Instrument, vt a2.Part, vi a2.Count]])] ?_
  refine TriE.cond (b := !((decide (1 ≤ a2.Count)) && (decide (a2.Count ≤ 10000)))) rfl (fun c3 => ?_) (fun c3 => ?_)
  · have h := cond_t h c3
    refine sr [(4, vi 2)] [some (.row 2 [.agg [eS 3 eStocked a0, .own 1 0 a1.length]]), some (.row 1 (List.map vi a1)), some (.row 3 [.agg [vt a2.Instrument, vt a2.Part, vi a2.Count]])] ?_
    refine TriE.ret ?_
    have h := Option.some.inj h
    subst h
    exact DoneS.ret (S' := ⟨[(4, vi 2)], [some (.row 2 [.agg [eS 3 eStocked a0, .own 1 0 a1.length]]), some (.row 1 (List.map vi a1))]⟩) (sc [0, 1] (by decide) (by kernel_rfl) (.cons rfl (obRen_row vi_frz rfl .nil)) rfl rfl) rfl rfl
  have h := cond_f h c3
  refine TriE.seq ?_
  refine TriE.sees (Sees.less (fr' := [(0, .ptr 0 0 0), (3, .ptr 2 0 0), (5, vi y1)]) (.cons rfl (.cons rfl (.cons rfl .nil)))) ?_
  refine TriE.draw (by kernel_rfl) ?_
  refine RegD.run 7 [(33, vi y1), (32, .own 1 0 a1.length), (31, .ptr 0 0 1), (30, .ptr 0 0 0), (29, .ptr 0 0 0), (28, vi a2.Count), (27, .ptr 2 0 2), (0, .ptr 0 0 0), (3, .ptr 2 0 0), (5, vi y1)] [some (.row 2 [.agg [eS 3 eStocked a0, .own 1 0 a1.length]]), some (.row 1 (List.map vi a1)), some (.row 3 [.agg [vt a2.Instrument, vt a2.Part, vi a2.Count]]), none, none, none, none, none, none, none] (by kernel_rfl) ?_
  obtain ⟨c4, h⟩ := chk_some h
  refine dv (.ptr 1 y1.toNat 0) (cy (I0 34 (.iaddr 1 (.t 32) (.t 33)))) (ok_iaddr_o0 (j := y1.toNat) rfl rfl rfl (inB_to c4) (inB_lt c4)) rfl ?_
  obtain ⟨c5, h⟩ := chk_some h
  refine dv (vi (ix a1 y1.toNat)) (cy (I0 35 (.load false 1 (.t 34)))) (ok_load_pm (l := a1) (e := vi) (v := vi (ix a1 y1.toNat)) rfl rfl c5 rfl) rfl ?_
  refine RegD.run 2 [(26, vb (decide ((ix a1 y1.toNat) < a2.Count))), (36, vb (decide ((ix a1 y1.toNat) < a2.Count))), (35, vi (ix a1 y1.toNat)), (34, .ptr 1 y1.toNat 0), (33, vi y1), (32, .own 1 0 a1.length), (31, .ptr 0 0 1), (30, .ptr 0 0 0), (29, .ptr 0 0 0), (28, vi a2.Count), (27, .ptr 2 0 2), (0, .ptr 0 0 0), (3, .ptr 2 0 0), (5, vi y1)] [some (.row 2 [.agg [eS 3 eStocked a0, .own 1 0 a1.length]]), some (.row 1 (List.map vi a1)), some (.row 3 [.agg [vt a2.Instrument, vt a2.Part, vi a2.Count]]), none, none, none, none, none, none, none, none, none, none, none] (by kernel_rfl) ?_
  refine RegD.done rfl (by kernel_rfl) (S' := ⟨[(0, .ptr 0 0 0), (3, .ptr 2 0 0), (5, vi y1), (26, vb (decide ((ix a1 y1.toNat) < a2.Count)))], [some (.row 2 [.agg [eS 3 eStocked a0, .own 1 0 a1.length]]), some (.row 1 (List.map vi a1)), some (.row 3 [.agg [vt a2.Instrument, vt a2.Part, vi a2.Count]])]⟩) (sc [0, 1, 2] (by decide) (by kernel_rfl) (.cons rfl (obRen_row vi_frz rfl (.cons rfl .nil))) rfl rfl) ?_
  refine TriE.cond (b := decide ((ix a1 y1.toNat) < a2.Count)) rfl (fun c6 => ?_) (fun c6 => ?_)
  · have h := cond_t h c6
    refine sr [(4, vi 20)] [some (.row 2 [.agg [eS 3 eStocked a0, .own 1 0 a1.length]]), some (.row 1 (List.map vi a1)), some (.row 3 [.agg [vt a2.Instrument, vt a2.Part, vi a2.Count]])] ?_
    refine TriE.ret ?_
    have h := Option.some.inj h
    subst h
    exact DoneS.ret (S' := ⟨[(4, vi 20)], [some (.row 2 [.agg [eS 3 eStocked a0, .own 1 0 a1.length]]), some (.row 1 (List.map vi a1))]⟩) (sc [0, 1] (by decide) (by kernel_rfl) (.cons rfl (obRen_row vi_frz rfl .nil)) rfl rfl) rfl rfl
  have h := cond_f h c6
  refine TriE.skip ?_
  refine TriE.seq ?_
  refine TriE.sees (Sees.less (fr' := [(0, .ptr 0 0 0), (3, .ptr 2 0 0), (5, vi y1)]) (.cons rfl (.cons rfl (.cons rfl .nil)))) ?_
  refine TriE.draw (by kernel_rfl) ?_
  refine RegD.run 5 [(41, vi y1), (40, .own 1 0 a1.length), (39, .ptr 0 0 1), (38, .ptr 0 0 0), (37, .ptr 0 0 0), (0, .ptr 0 0 0), (3, .ptr 2 0 0), (5, vi y1)] [some (.row 2 [.agg [eS 3 eStocked a0, .own 1 0 a1.length]]), some (.row 1 (List.map vi a1)), some (.row 3 [.agg [vt a2.Instrument, vt a2.Part, vi a2.Count]]), none, none, none, none, none] (by kernel_rfl) ?_
  refine dv (.ptr 1 y1.toNat 0) (cy (I0 42 (.iaddr 1 (.t 40) (.t 41)))) (ok_iaddr_o0 (j := y1.toNat) rfl rfl rfl (inB_to c4) (inB_lt c4)) rfl ?_
  refine dv (vi (ix a1 y1.toNat)) (cy (I0 43 (.load false 1 (.t 42)))) (ok_load_pm (l := a1) (e := vi) (v := vi (ix a1 y1.toNat)) rfl rfl c5 rfl) rfl ?_
  refine RegD.run 2 [(45, vi a2.Count), (44, .ptr 2 0 2), (43, vi (ix a1 y1.toNat)), (42, .ptr 1 y1.toNat 0), (41, vi y1), (40, .own 1 0 a1.length), (39, .ptr 0 0 1), (38, .ptr 0 0 0), (37, .ptr 0 0 0), (0, .ptr 0 0 0), (3, .ptr 2 0 0), (5, vi y1)] [some (.row 2 [.agg [eS 3 eStocked a0, .own 1 0 a1.length]]), some (.row 1 (List.map vi a1)), some (.row 3 [.agg [vt a2.Instrument, vt a2.Part, vi a2.Count]]), none, none, none, none, none, none, none, none, none] (by kernel_rfl) ?_
  obtain ⟨c7, h⟩ := chk_some h
  refine dv (vi ((ix a1 y1.toNat) - a2.Count)) (cy (I0 46 (.bin .sub false (.t 43) (.t 45)))) (r_sub rfl rfl c7) rfl ?_
  refine dv (.ptr 1 y1.toNat 0) (cy (I0 47 (.iaddr 1 (.t 40) (.t 41)))) (ok_iaddr_o0 (j := y1.toNat) rfl rfl rfl (inB_to c4) (inB_lt c4)) rfl ?_
  refine de (.undef) [some (.row 2 [.agg [eS 3 eStocked a0, .own 1 0 a1.length]]), some (.row 1 (List.map vi (List.set a1 y1.toNat ((ix a1 y1.toNat) - a2.Count)))), some (.row 3 [.agg [vt a2.Instrument, vt a2.Part, vi a2.Count]]), none, none, none, none, none, none, none, none, none, none, none, none] (cy (IN (.store 1 (.t 47) (.t 46)))) (ok_store_m (l := a1) (e := vi) (x' := (ix a1 y1.toNat) - a2.Count) (u := vi ((ix a1 y1.toNat) - a2.Count)) rfl rfl rfl c5 rfl rfl) rfl rfl rfl ?_
  refine RegD.done rfl (by kernel_rfl) (S' := ⟨[], [some (.row 2 [.agg [eS 3 eStocked a0, .own 1 0 a1.length]]), some (.row 1 (List.map vi (List.set a1 y1.toNat ((ix a1 y1.toNat) - a2.Count))))]⟩) (sc [0, 1] (by decide) (by kernel_rfl) (.cons rfl (obRen_row vi_frz rfl .nil)) rfl rfl) ?_
  refine sr [(4, vi 0)] [some (.row 2 [.agg [eS 3 eStocked a0, .own 1 0 a1.length]]), some (.row 1 (List.map vi (List.set a1 y1.toNat ((ix a1 y1.toNat) - a2.Count))))] ?_
  refine TriE.ret ?_
  have h := Option.some.inj h
  subst h
  exact DoneS.ret (S' := ⟨[(4, vi 0)], [some (.row 2 [.agg [eS 3 eStocked a0, .own 1 0 a1.length]]), some (.row 1 (List.map vi (List.set a1 y1.toNat ((ix a1 y1.toNat) - a2.Count))))]⟩) Sees.refl rfl rfl
theorem restore_shelfOf_ok (n : Nat) (a0 : List Stocked) (a1 : List PartPromise) (r : Int ⊕ (List Int)) (h : restore_shelfOf n a0 a1 = some r) : FnL Tryz.prog 107 [eS 3 eStocked a0, eS 3 ePartPromise a1] [] (match r with | .inl r => .tup [.p (.pointer none), vi r] | .inr r => .tup [.ptr 0 0 0, vi 0]) (match r with | .inl r => [] | .inr r => [some (.row 2 [.agg [eS 3 eStocked a0, .own 1 0 r.length]]), some (.row 1 (List.map vi r))]) := by
  dsimp only [restore_shelfOf] at h
  refine FnL.ofS (ts := [4, 5]) Tryz.call107 Tryz.func107 rfl rfl (Nat.le_of_ble_eq_true rfl) (by rcases r with r | r <;> exact Nat.le_of_ble_eq_true rfl) (fun j h => absurd h (Nat.not_lt_zero j)) ?_
  refine sr [(0, eS 3 eStocked a0), (1, eS 3 ePartPromise a1)] [] ?_
  refine TriE.seq ?_
  refine sj ?_
  refine rn 1 [(0, eS 3 eStocked a0), (1, eS 3 ePartPromise a1), (13, eS 3 eStocked a0)] [] ?_
  obtain ⟨y1, hy1, h⟩ := bind_some h
  refine RegJ.op (Op1.call (y' := vi y1) (obx := []) (oby := []) (ob2 := []) _ _ (cy (I0 14 (.call 22 [(.t 13)]))) rfl (restore_CheckStock_ok n a0 y1 hy1) [] (by kernel_rfl) (.cons rfl (.cons rfl .nil)) (by kernel_rfl) (by kernel_rfl) ObsRen.nil (by kernel_rfl) ObsRen.nil (by kernel_rfl)) ?_
  refine jq 1 [(0, eS 3 eStocked a0), (1, eS 3 ePartPromise a1), (6, vi y1)] [] ?_
  refine sr [(0, eS 3 eStocked a0), (1, eS 3 ePartPromise a1), (6, vi y1), (16, vb (y1 != (0 : Int)))] [] ?_
  refine TriE.cond (b := (y1 != (0 : Int))) rfl (fun c1 => ?_) (fun c1 => ?_)
  · have h := cond_t h c1
    refine sr [(4, .p (.pointer none)), (5, vi y1)] [] ?_
    refine TriE.ret ?_
    have h := Option.some.inj h
    subst h
    exact DoneS.ret (S' := ⟨[(4, .p (.pointer none)), (5, vi y1)], []⟩) Sees.refl rfl rfl
  have h := cond_f h c1
  refine TriE.skip ?_
  refine TriE.seq ?_
  refine sj ?_
  refine rn 1 [(0, eS 3 eStocked a0), (1, eS 3 ePartPromise a1), (18, eS 3 ePartPromise a1)] [] ?_
  refine jv (vi (a1.length : Int)) (cy (I0 19 (.len 0 (.t 18)))) (ok_len_m rfl) rfl ?_
  refine jv (vb (decide (200 < a1.length))) (cy (I0 20 (.bin .gtr false (.t 19) (.c (.p (.int .i64 200)))))) (n_gtr (i := a1.length) (j := 200) rfl rfl) rfl ?_
  refine jp [(0, eS 3 eStocked a0), (1, eS 3 ePartPromise a1), (20, vb (decide (200 < a1.length)))] ?_
  refine TriE.cond (b := decide (200 < a1.length)) rfl (fun c2 => ?_) (fun c2 => ?_)
  · have h := cond_t h c2
    refine sr [(4, .p (.pointer none)), (5, vi 8)] [] ?_
    refine TriE.ret ?_
    have h := Option.some.inj h
    subst h
    exact DoneS.ret (S' := ⟨[(4, .p (.pointer none)), (5, vi 8)], []⟩) Sees.refl rfl rfl
  have h := cond_f h c2
  refine TriE.skip ?_
  refine sr [(0, eS 3 eStocked a0), (1, eS 3 ePartPromise a1), (7, .ptr 0 0 0)] [some (.row 2 [.agg [eS 3 eStocked a0, .emp]])] ?_
  refine TriE.seqK h (fun (v4 : (List Int)) => St.mk [(1, eS 3 ePartPromise a1), (7, .ptr 0 0 0)] [some (.row 2 [.agg [eS 3 eStocked a0, .own 1 0 v4.length]]), some (.row 1 (List.map vi v4))]) ?_ ?_
  · rintro v4 h
    refine TriE.seqK h (fun (v9 : (List Int)) => St.mk [(7, .ptr 0 0 0)] [some (.row 2 [.agg [eS 3 eStocked a0, .own 1 0 v9.length]]), some (.row 1 (List.map vi v9))]) ?_ ?_
    · rintro v9 h
      refine sr [(4, .ptr 0 0 0), (5, vi 0)] [some (.row 2 [.agg [eS 3 eStocked a0, .own 1 0 v9.length]]), some (.row 1 (List.map vi v9))] ?_
      refine TriE.ret ?_
      have h := Option.some.inj h
      subst h
      exact DoneS.ret (S' := ⟨[(4, .ptr 0 0 0), (5, vi 0)], [some (.row 2 [.agg [eS 3 eStocked a0, .own 1 0 v9.length]]), some (.row 1 (List.map vi v9))]⟩) Sees.refl rfl rfl
    intro k2 h
    refine sj ?_
    refine rn 1 [(7, .ptr 0 0 0), (42, eS 3 ePartPromise a1)] [some (.row 2 [.agg [eS 3 eStocked a0, .own 1 0 v4.length]]), some (.row 1 (List.map vi v4))] ?_
    refine jv (vi (a1.length : Int)) (cy (I0 43 (.len 0 (.t 42)))) (ok_len_m rfl) rfl ?_
    refine jq 1 [(7, .ptr 0 0 0), (42, eS 3 ePartPromise a1), (43, vi (a1.length : Int)), (44, vi 0)] [some (.row 2 [.agg [eS 3 eStocked a0, .own 1 0 v4.length]]), some (.row 1 (List.map vi v4))] ?_
    refine TriE.block ?_
    refine TriE.sees (S' := ⟨[(7, .ptr 0 0 0), (42, eS 3 ePartPromise a1), (43, vi (a1.length : Int)), (44, vi 0)], [some (.row 2 [.agg [eS 3 eStocked a0, .own 1 0 v4.length]]), some (.row 1 (List.map vi v4))]⟩) sy ?_
    refine TriE.loopN h (fun (t : Nat × (List Int)) => match t with | (v6, v7) => St.mk [(7, .ptr 0 0 0), (42, eS 3 ePartPromise a1), (43, vi (a1.length : Int)), (44, vi v6)] [some (.row 2 [.agg [eS 3 eStocked a0, .own 1 0 v7.length]]), some (.row 1 (List.map vi v7))]) rfl ?_
    clear h
    rintro back ⟨v6, v7⟩ h
    dsimp only [restore_shelfOf_L2] at h
    refine sj ?_
    refine jv (vb (decide (v6 < a1.length))) (cy (I0 45 (.bin .lss false (.t 44) (.t 43)))) (n_lss (i := v6) (j := a1.length) rfl rfl) rfl ?_
    refine jp [(7, .ptr 0 0 0), (42, eS 3 ePartPromise a1), (43, vi (a1.length : Int)), (44, vi v6), (45, vb (decide (v6 < a1.length)))] ?_
    refine TriE.seq ?_
    refine TriE.cond (b := decide (v6 < a1.length)) rfl (fun c6 => ?_) (fun c6 => ?_)
    · have h := cond_t h c6
      refine TriE.skip ?_
      refine TriE.seq ?_
      refine TriE.block ?_
      refine sj ?_
      refine jv (.fptr 3 (List.map ePartPromise a1) v6 0) (cy (I0 46 (.iaddr 3 (.t 42) (.t 44)))) (ok_iaddr_m (j := v6) rfl rfl rfl c6) rfl ?_
      refine jv (.agg [vt ((ix a1 v6).Instrument), vt ((ix a1 v6).Part), vi ((ix a1 v6).Count)]) (cy (I0 47 (.load true 3 (.t 46)))) (ok_load_fm (v := .agg [vt ((ix a1 v6).Instrument), vt ((ix a1 v6).Part), vi ((ix a1 v6).Count)]) rfl c6 rfl) rfl ?_
      refine jq 2 [(7, .ptr 0 0 0), (42, eS 3 ePartPromise a1), (43, vi (a1.length : Int)), (44, vi v6), (11, .ptr 2 0 0)] [some (.row 2 [.agg [eS 3 eStocked a0, .own 1 0 v7.length]]), some (.row 1 (List.map vi v7)), some (.row 3 [.agg [vt ((ix a1 v6).Instrument), vt ((ix a1 v6).Part), vi ((ix a1 v6).Count)]])] ?_
      refine sj ?_
      refine rn 2 [(7, .ptr 0 0 0), (42, eS 3 ePartPromise a1), (43, vi (a1.length : Int)), (44, vi v6), (48, .ptr 0 0 0), (49, .agg [vt ((ix a1 v6).Instrument), vt ((ix a1 v6).Part), vi ((ix a1 v6).Count)])] [some (.row 2 [.agg [eS 3 eStocked a0, .own 1 0 v7.length]]), some (.row 1 (List.map vi v7)), some (.row 3 [.agg [vt ((ix a1 v6).Instrument), vt ((ix a1 v6).Part), vi ((ix a1 v6).Count)]])] ?_
      obtain ⟨y8, hy8, h⟩ := bind_some h
      refine RegJ.op (Op1.call (y' := vi y8.1) (obx := [some (.row 2 [.agg [eS 3 eStocked a0, .own 1 0 v7.length]]), some (.row 1 (List.map vi v7))]) (oby := [some (.row 2 [.agg [eS 3 eStocked a0, .own 1 0 v7.length]]), some (.row 1 (List.map vi y8.2))]) (ob2 := [some (.row 2 [.agg [eS 3 eStocked a0, .own 1 0 v7.length]]), some (.row 1 (List.map vi y8.2)), some (.row 3 [.agg [vt ((ix a1 v6).Instrument), vt ((ix a1 v6).Part), vi ((ix a1 v6).Count)]])]) _ _ (cy (I0 50 (.call 111 [(.t 48), (.t 49)]))) rfl (restore_shelf_take_ok n a0 v7 (ix a1 v6) y8 hy8) [0, 1] (by kernel_rfl) (.cons rfl (.cons rfl (.cons rfl .nil))) (by kernel_rfl) (by kernel_rfl) (.cons rfl (.same (row_ren vi_frz _ _ _) .nil)) (by kernel_rfl) (.cons rfl (.same (row_ren vi_frz _ _ _) .nil)) (by kernel_rfl)) ?_
      obtain ⟨c7, h⟩ := chk_some h
      refine RegJ.sees (S' := ⟨[(7, .ptr 0 0 0), (42, eS 3 ePartPromise a1), (43, vi (a1.length : Int)), (44, vi v6), (48, .ptr 0 0 0), (49, .agg [vt ((ix a1 v6).Instrument), vt ((ix a1 v6).Part), vi ((ix a1 v6).Count)]), (50, vi y8.1)], [some (.row 2 [.agg [eS 3 eStocked a0, .own 1 0 y8.2.length]]), some (.row 1 (List.map vi y8.2)), some (.row 3 [.agg [vt ((ix a1 v6).Instrument), vt ((ix a1 v6).Part), vi ((ix a1 v6).Count)]])]⟩) (Sees.cov (Cov.mk2 (rs := [0, 1, 2]) (by decide) rfl rfl (.cons (.inl rfl) (.cons (.inl rfl) (.cons (.inl rfl) (.cons (.inl rfl) (.cons (.inl rfl) (.cons (.inl rfl) (.cons (.inl rfl) .nil))))))) (.cons (by rw [show v7.length = y8.2.length from of_decide_eq_true c7]; rfl) (obRen_row vi_frz rfl (.cons rfl .nil))))) ?_
      refine jq 1 [(7, .ptr 0 0 0), (42, eS 3 ePartPromise a1), (43, vi (a1.length : Int)), (44, vi v6), (12, vi y8.1)] [some (.row 2 [.agg [eS 3 eStocked a0, .own 1 0 y8.2.length]]), some (.row 1 (List.map vi y8.2)), some (.row 3 [.agg [vt ((ix a1 v6).Instrument), vt ((ix a1 v6).Part), vi ((ix a1 v6).Count)]])] ?_
      refine sr [(7, .ptr 0 0 0), (42, eS 3 ePartPromise a1), (43, vi (a1.length : Int)), (44, vi v6), (12, vi y8.1), (52, vb (y8.1 != (0 : Int)))] [some (.row 2 [.agg [eS 3 eStocked a0, .own 1 0 y8.2.length]]), some (.row 1 (List.map vi y8.2)), some (.row 3 [.agg [vt ((ix a1 v6).Instrument), vt ((ix a1 v6).Part), vi ((ix a1 v6).Count)]])] ?_
      refine TriE.cond (b := (y8.1 != (0 : Int))) rfl (fun c8 => ?_) (fun c8 => ?_)
      · have h := cond_t h c8
        refine sr [(4, .p (.pointer none)), (5, vi y8.1)] [some (.row 2 [.agg [eS 3 eStocked a0, .own 1 0 y8.2.length]]), some (.row 1 (List.map vi y8.2)), some (.row 3 [.agg [vt ((ix a1 v6).Instrument), vt ((ix a1 v6).Part), vi ((ix a1 v6).Count)]])] ?_
        refine TriE.ret ?_
        have h := Option.some.inj h
        subst h
        exact DoneS.ret (S' := ⟨[(4, .p (.pointer none)), (5, vi y8.1)], []⟩) (sc [] (by decide) (by kernel_rfl) ObRen.nil rfl rfl) rfl rfl
      have h := cond_f h c8
      refine TriE.skip ?_
      refine TriE.regJ ?_
      obtain ⟨c9, h⟩ := chk_some h
      refine jv (vi ((v6 + 1 : Nat) : Int)) (cy (I0 54 (.bin .add false (.t 44) (.c (.p (.int .i64 1)))))) (r_addn (i := v6) (j := 1) rfl rfl c9) rfl ?_
      refine jq 1 [(7, .ptr 0 0 0), (42, eS 3 ePartPromise a1), (43, vi (a1.length : Int)), (44, vi ((v6 + 1 : Nat) : Int))] [some (.row 2 [.agg [eS 3 eStocked a0, .own 1 0 y8.2.length]]), some (.row 1 (List.map vi y8.2)), some (.row 3 [.agg [vt ((ix a1 v6).Instrument), vt ((ix a1 v6).Part), vi ((ix a1 v6).Count)]])] ?_
      exact Vs.intro (sc [0, 1] (by decide) (by kernel_rfl) (.cons rfl (obRen_row vi_frz rfl .nil)) rfl rfl) ⟨(v6 + 1, y8.2), rfl, h⟩
    have h := cond_f h c6
    refine TriE.exit ?_
    exact Vs.intro sy ⟨v7, rfl, h⟩
  intro k1 h
  refine sj ?_
  refine rn 1 [(1, eS 3 ePartPromise a1), (7, .ptr 0 0 0), (24, eS 3 eStocked a0)] [some (.row 2 [.agg [eS 3 eStocked a0, .emp]])] ?_
  refine jv (vi (a0.length : Int)) (cy (I0 25 (.len 0 (.t 24)))) (ok_len_m rfl) rfl ?_
  refine jq 1 [(1, eS 3 ePartPromise a1), (7, .ptr 0 0 0), (24, eS 3 eStocked a0), (25, vi (a0.length : Int)), (26, vi 0)] [some (.row 2 [.agg [eS 3 eStocked a0, .emp]])] ?_
  refine TriE.block ?_
  refine TriE.sees (S' := ⟨[(1, eS 3 ePartPromise a1), (7, .ptr 0 0 0), (24, eS 3 eStocked a0), (25, vi (a0.length : Int)), (26, vi 0)], [some (.row 2 [.agg [eS 3 eStocked a0, .own 1 0 ([] : List Int).length]]), some (.row 1 (List.map vi ([] : List Int)))]⟩) (Sees.trans (Sees.co (fr' := [(1, eS 3 ePartPromise a1), (7, .ptr 0 0 0), (24, eS 3 eStocked a0), (25, vi (a0.length : Int)), (26, vi 0)]) (ob' := [some (.row 2 [.agg [eS 3 eStocked a0, .own 1 0 0]])]) (.cons .same (.cons .same (.cons .same (.cons .same (.cons .same .nil))))) (.cell (.cons .same (.cons .own .nil)) rfl .nil) 1) sy) ?_
  refine TriE.loopN h (fun (t : Nat × (List Int)) => match t with | (v2, v3) => St.mk [(1, eS 3 ePartPromise a1), (7, .ptr 0 0 0), (24, eS 3 eStocked a0), (25, vi (a0.length : Int)), (26, vi v2)] [some (.row 2 [.agg [eS 3 eStocked a0, .own 1 0 v3.length]]), some (.row 1 (List.map vi v3))]) rfl ?_
  clear h
  rintro back ⟨v2, v3⟩ h
  dsimp only [restore_shelfOf_L1] at h
  refine sj ?_
  refine jv (vb (decide (v2 < a0.length))) (cy (I0 27 (.bin .lss false (.t 26) (.t 25)))) (n_lss (i := v2) (j := a0.length) rfl rfl) rfl ?_
  refine jp [(1, eS 3 ePartPromise a1), (7, .ptr 0 0 0), (24, eS 3 eStocked a0), (25, vi (a0.length : Int)), (26, vi v2), (27, vb (decide (v2 < a0.length)))] ?_
  refine TriE.seq ?_
  refine TriE.cond (b := decide (v2 < a0.length)) rfl (fun c3 => ?_) (fun c3 => ?_)
  · have h := cond_t h c3
    refine TriE.skip ?_
    refine TriE.seq ?_
    refine TriE.block ?_
    refine sj ?_
    refine jv (.fptr 3 (List.map eStocked a0) v2 0) (cy (I0 28 (.iaddr 3 (.t 24) (.t 26)))) (ok_iaddr_m (j := v2) rfl rfl rfl c3) rfl ?_
    refine jv (.agg [vt ((ix a0 v2).Part), vi ((ix a0 v2).Cents), vi ((ix a0 v2).Count)]) (cy (I0 29 (.load true 3 (.t 28)))) (ok_load_fm (v := .agg [vt ((ix a0 v2).Part), vi ((ix a0 v2).Cents), vi ((ix a0 v2).Count)]) rfl c3 rfl) rfl ?_
    refine jq 2 [(1, eS 3 ePartPromise a1), (7, .ptr 0 0 0), (24, eS 3 eStocked a0), (25, vi (a0.length : Int)), (26, vi v2), (9, .ptr 2 0 0)] [some (.row 2 [.agg [eS 3 eStocked a0, .own 1 0 v3.length]]), some (.row 1 (List.map vi v3)), some (.row 3 [.agg [vt ((ix a0 v2).Part), vi ((ix a0 v2).Cents), vi ((ix a0 v2).Count)]])] ?_
    refine TriE.sees (Sees.less (fr' := [(1, eS 3 ePartPromise a1), (7, .ptr 0 0 0), (24, eS 3 eStocked a0), (25, vi (a0.length : Int)), (26, vi v2), (9, .ptr 2 0 0)]) (.cons rfl (.cons rfl (.cons rfl (.cons rfl (.cons rfl (.cons rfl .nil))))))) ?_
    refine TriE.draw (by kernel_rfl) ?_
    refine RegD.run 8 [(37, .own 10 0 1), (36, vi ((ix a0 v2).Count)), (35, .ptr 2 0 2), (34, .own 1 0 v3.length), (33, .ptr 0 0 1), (32, .ptr 0 0 0), (31, .ptr 0 0 0), (30, .ptr 0 0 0), (1, eS 3 ePartPromise a1), (7, .ptr 0 0 0), (24, eS 3 eStocked a0), (25, vi (a0.length : Int)), (26, vi v2), (9, .ptr 2 0 0)] [some (.row 2 [.agg [eS 3 eStocked a0, .own 1 0 v3.length]]), some (.row 1 (List.map vi v3)), some (.row 3 [.agg [vt ((ix a0 v2).Part), vi ((ix a0 v2).Cents), vi ((ix a0 v2).Count)]]), none, none, none, none, none, none, none, some (.row 1 [vi ((ix a0 v2).Count)])] (by kernel_rfl) ?_
    obtain ⟨c4, h⟩ := chk_some h
    refine de (.own 11 0 ((v3 ++ ([(ix a0 v2).Count] : List Int)).length)) [some (.row 2 [.agg [eS 3 eStocked a0, .own 1 0 v3.length]]), none, some (.row 3 [.agg [vt ((ix a0 v2).Part), vi ((ix a0 v2).Cents), vi ((ix a0 v2).Count)]]), none, none, none, none, none, none, none, some (.row 1 [vi ((ix a0 v2).Count)]), some (.row 1 (List.map vi (v3 ++ ([(ix a0 v2).Count] : List Int))))] (cy (I0 38 (.app 1 8 (.t 34) (.t 37)))) (ok_app_own (l := v3) (l2 := ([(ix a0 v2).Count] : List Int)) (e := vi) (u := .own 10 0 1) rfl rfl rfl rfl rfl c4) rfl rfl rfl ?_
    refine RegD.run 3 [(40, .ptr 0 0 1), (39, .ptr 0 0 0), (38, .own 11 0 ((v3 ++ ([(ix a0 v2).Count] : List Int)).length)), (37, .own 10 0 1), (36, vi ((ix a0 v2).Count)), (35, .ptr 2 0 2), (34, .own 1 0 v3.length), (33, .ptr 0 0 1), (32, .ptr 0 0 0), (31, .ptr 0 0 0), (30, .ptr 0 0 0), (1, eS 3 ePartPromise a1), (7, .ptr 0 0 0), (24, eS 3 eStocked a0), (25, vi (a0.length : Int)), (26, vi v2), (9, .ptr 2 0 0)] [some (.row 2 [.agg [eS 3 eStocked a0, .own 11 0 ((v3 ++ ([(ix a0 v2).Count] : List Int)).length)]]), none, some (.row 3 [.agg [vt ((ix a0 v2).Part), vi ((ix a0 v2).Cents), vi ((ix a0 v2).Count)]]), none, none, none, none, none, none, none, some (.row 1 [vi ((ix a0 v2).Count)]), some (.row 1 (List.map vi (v3 ++ ([(ix a0 v2).Count] : List Int)))), none, none, none] (by kernel_rfl) ?_
    refine RegD.done rfl (by kernel_rfl) (S' := ⟨[(1, eS 3 ePartPromise a1), (7, .ptr 0 0 0), (24, eS 3 eStocked a0), (25, vi (a0.length : Int)), (26, vi v2)], [some (.row 2 [.agg [eS 3 eStocked a0, .own 1 0 ((v3 ++ ([(ix a0 v2).Count] : List Int)).length)]]), some (.row 1 (List.map vi (v3 ++ ([(ix a0 v2).Count] : List Int))))]⟩) (sc [0, 11] (by decide) (by kernel_rfl) (.cons rfl (obRen_row vi_frz rfl .nil)) rfl rfl) ?_
    refine TriE.regJ ?_
    obtain ⟨c5, h⟩ := chk_some h
    refine jv (vi ((v2 + 1 : Nat) : Int)) (cy (I0 41 (.bin .add false (.t 26) (.c (.p (.int .i64 1)))))) (r_addn (i := v2) (j := 1) rfl rfl c5) rfl ?_
    refine jq 1 [(1, eS 3 ePartPromise a1), (7, .ptr 0 0 0), (24, eS 3 eStocked a0), (25, vi (a0.length : Int)), (26, vi ((v2 + 1 : Nat) : Int))] [some (.row 2 [.agg [eS 3 eStocked a0, .own 1 0 ((v3 ++ ([(ix a0 v2).Count] : List Int)).length)]]), some (.row 1 (List.map vi (v3 ++ ([(ix a0 v2).Count] : List Int))))] ?_
    exact Vs.intro sy ⟨(v2 + 1, (v3 ++ ([(ix a0 v2).Count] : List Int))), rfl, h⟩
  have h := cond_f h c3
  refine TriE.exit ?_
  exact Vs.intro sy ⟨v3, rfl, h⟩
theorem slices_Clone_PartPromise_ok (n : Nat) (a0 : List PartPromise) (r : (List PartPromise)) (h : slices_Clone_PartPromise n a0 = some r) : FnL Tryz.prog 112 [eS 3 ePartPromise a0] [] (.own 0 0 r.length) [some (.row 3 (List.map ePartPromise r))] := by
  dsimp only [slices_Clone_PartPromise] at h
  refine FnL.ofS (ts := [2]) Tryz.call112 Tryz.func112 rfl rfl (Nat.le_of_ble_eq_true rfl) (Nat.le_of_ble_eq_true rfl) (fun j h => absurd h (Nat.not_lt_zero j)) ?_
  refine sr [(0, eS 3 ePartPromise a0)] [] ?_
  refine TriE.seq ?_
  refine sj ?_
  refine rn 1 [(0, eS 3 ePartPromise a0), (3, eS 3 ePartPromise a0)] [] ?_
  refine RegJ.nileq (v := eS 3 ePartPromise a0) (a0.isEmpty) (cy (I0 4 (.bin .eql false (.t 3) (.c .emp)))) (by kernel_rfl) (.cons rfl (.cons rfl .nil)) rfl nil_sl (fun b1 hb1 => ?_)
  have h := nilK_some h b1 hb1
  refine jp [(0, eS 3 ePartPromise a0), (4, vb b1)] ?_
  refine TriE.cond (b := b1) rfl (fun c1 => ?_) (fun c1 => ?_)
  · have h := cond_t h c1
    refine sr [(2, .emp)] [] ?_
    refine TriE.ret ?_
    have h := Option.some.inj h
    subst h
    exact DoneS.ret (S' := ⟨[(2, .own 0 0 (([] : List PartPromise).length))], [some (.row 3 (List.map ePartPromise ([] : List PartPromise)))]⟩) (Sees.trans (Sees.co (fr' := [(2, .own 0 0 0)]) (ob' := []) (.cons .own .nil) ObCo.nil 3) sy) rfl rfl
  have h := cond_f h c1
  refine TriE.skip ?_
  refine sj ?_
  refine rn 2 [(5, .emp), (6, eS 3 ePartPromise a0)] [] ?_
  obtain ⟨c2, h⟩ := chk_some h
  refine je (.own 0 0 a0.length) [some (.row 3 (List.map ePartPromise a0))] (cy (I0 7 (.app 3 40 (.t 5) (.t 6)))) (ok_app_emp (e := ePartPromise) (l := a0) (u := eS 3 ePartPromise a0) rfl rfl els_sl c2) rfl rfl rfl ?_
  refine jq 1 [(2, .own 0 0 a0.length)] [some (.row 3 (List.map ePartPromise a0))] ?_
  refine TriE.ret ?_
  have h := Option.some.inj h
  subst h
  exact DoneS.ret (S' := ⟨[(2, .own 0 0 a0.length)], [some (.row 3 (List.map ePartPromise a0))]⟩) Sees.refl rfl rfl
theorem restore_AddPromise_ok (n : Nat) (a0 : List Stocked) (a1 : List PartPromise) (a2 : PartPromise) (r : Int × (List PartPromise)) (h : restore_AddPromise n a0 a1 a2 = some r) : FnL Tryz.prog 46 [eS 3 eStocked a0, eS 3 ePartPromise a1, .agg [vt a2.Instrument, vt a2.Part, vi a2.Count]] [] (.tup [eS 3 ePartPromise r.2, vi r.1]) [] := by
  dsimp only [restore_AddPromise] at h
  refine FnL.ofS (ts := [6, 7]) Tryz.call46 Tryz.func46 rfl rfl (Nat.le_of_ble_eq_true rfl) (Nat.le_of_ble_eq_true rfl) (fun j h => absurd h (Nat.not_lt_zero j)) ?_
  refine sr [(0, eS 3 eStocked a0), (1, eS 3 ePartPromise a1), (5, .ptr 0 0 0)] [some (.row 3 [.agg [vt a2.Instrument, vt a2.Part, vi a2.Count]])] ?_
  refine TriE.seqK2 h (fun (v4 : Int) => St.mk [(1, eS 3 ePartPromise a1), (5, .ptr 0 0 0), (8, .p (.pointer none)), (9, vi v4)] [some (.row 3 [.agg [vt a2.Instrument, vt a2.Part, vi a2.Count]])]) (fun (v5 : (List Int)) => St.mk [(1, eS 3 ePartPromise a1), (5, .ptr 0 0 0), (8, .ptr 1 0 0), (9, vi 0)] [some (.row 3 [.agg [vt a2.Instrument, vt a2.Part, vi a2.Count]]), some (.row 2 [.agg [eS 3 eStocked a0, .own 2 0 v5.length]]), some (.row 1 (List.map vi v5))]) ?_ ?_ ?_
  · rintro v4 h
    refine TriE.seq ?_
    refine TriE.block ?_
    refine sr [(1, eS 3 ePartPromise a1), (5, .ptr 0 0 0), (8, .p (.pointer none)), (9, vi v4), (17, vb (v4 != (0 : Int)))] [some (.row 3 [.agg [vt a2.Instrument, vt a2.Part, vi a2.Count]])] ?_
    refine TriE.cond (b := (v4 != (0 : Int))) rfl (fun c1 => ?_) (fun c1 => ?_)
    · have h := cond_t h c1
      refine sr [(6, .emp), (7, vi v4)] [some (.row 3 [.agg [vt a2.Instrument, vt a2.Part, vi a2.Count]])] ?_
      refine TriE.ret ?_
      have h := Option.some.inj h
      subst h
      exact DoneS.ret (S' := ⟨[(6, eS 3 ePartPromise ([] : List PartPromise)), (7, vi v4)], []⟩) (Sees.trans (Sees.vco (fr' := [(6, eS 3 ePartPromise ([] : List PartPromise)), (7, vi v4)]) (.cons .sl (.cons .same .nil))) (sc [] (by decide) (by kernel_rfl) ObRen.nil rfl rfl)) rfl rfl
    have h := cond_f h c1
    refine sj ?_
    refine rn 1 [(1, eS 3 ePartPromise a1), (5, .ptr 0 0 0), (8, .p (.pointer none)), (22, eS 3 ePartPromise a1)] [some (.row 3 [.agg [vt a2.Instrument, vt a2.Part, vi a2.Count]])] ?_
    refine jv (vi (a1.length : Int)) (cy (I0 23 (.len 0 (.t 22)))) (ok_len_m rfl) rfl ?_
    refine jv (vb (decide (a1.length = 200))) (cy (I0 24 (.bin .eql false (.t 23) (.c (.p (.int .i64 200)))))) (n_eql (i := a1.length) (j := 200) rfl rfl) rfl ?_
    refine jq 1 [(1, eS 3 ePartPromise a1), (5, .ptr 0 0 0), (8, .p (.pointer none)), (21, vb (decide (a1.length = 200)))] [some (.row 3 [.agg [vt a2.Instrument, vt a2.Part, vi a2.Count]])] ?_
    refine TriE.cond (b := decide (a1.length = 200)) rfl (fun c2 => ?_) (fun c2 => ?_)
    · have h := cond_t h c2
      refine sr [(6, .emp), (7, vi 8)] [some (.row 3 [.agg [vt a2.Instrument, vt a2.Part, vi a2.Count]])] ?_
      refine TriE.ret ?_
      have h := Option.some.inj h
      subst h
      exact DoneS.ret (S' := ⟨[(6, eS 3 ePartPromise ([] : List PartPromise)), (7, vi 8)], []⟩) (Sees.trans (Sees.vco (fr' := [(6, eS 3 ePartPromise ([] : List PartPromise)), (7, vi 8)]) (.cons .sl (.cons .same .nil))) (sc [] (by decide) (by kernel_rfl) ObRen.nil rfl rfl)) rfl rfl
    have h := cond_f h c2
    refine TriE.skip ?_
    refine TriE.seq ?_
    refine sj ?_
    refine rn 2 [(1, eS 3 ePartPromise a1), (5, .ptr 0 0 0), (25, .p (.pointer none)), (26, .agg [vt a2.Instrument, vt a2.Part, vi a2.Count])] [some (.row 3 [.agg [vt a2.Instrument, vt a2.Part, vi a2.Count]])] ?_
    cases h
  · rintro v5 h
    refine TriE.seq ?_
    refine TriE.block ?_
    refine sr [(1, eS 3 ePartPromise a1), (5, .ptr 0 0 0), (8, .ptr 1 0 0), (9, vi 0), (17, vb false)] [some (.row 3 [.agg [vt a2.Instrument, vt a2.Part, vi a2.Count]]), some (.row 2 [.agg [eS 3 eStocked a0, .own 2 0 v5.length]]), some (.row 1 (List.map vi v5))] ?_
    refine TriE.cond (b := false) rfl (fun c3 => ?_) (fun c3 => ?_)
    · cases c3
    refine sj ?_
    refine rn 1 [(1, eS 3 ePartPromise a1), (5, .ptr 0 0 0), (8, .ptr 1 0 0), (22, eS 3 ePartPromise a1)] [some (.row 3 [.agg [vt a2.Instrument, vt a2.Part, vi a2.Count]]), some (.row 2 [.agg [eS 3 eStocked a0, .own 2 0 v5.length]]), some (.row 1 (List.map vi v5))] ?_
    refine jv (vi (a1.length : Int)) (cy (I0 23 (.len 0 (.t 22)))) (ok_len_m rfl) rfl ?_
    refine jv (vb (decide (a1.length = 200))) (cy (I0 24 (.bin .eql false (.t 23) (.c (.p (.int .i64 200)))))) (n_eql (i := a1.length) (j := 200) rfl rfl) rfl ?_
    refine jq 1 [(1, eS 3 ePartPromise a1), (5, .ptr 0 0 0), (8, .ptr 1 0 0), (21, vb (decide (a1.length = 200)))] [some (.row 3 [.agg [vt a2.Instrument, vt a2.Part, vi a2.Count]]), some (.row 2 [.agg [eS 3 eStocked a0, .own 2 0 v5.length]]), some (.row 1 (List.map vi v5))] ?_
    refine TriE.cond (b := decide (a1.length = 200)) rfl (fun c4 => ?_) (fun c4 => ?_)
    · have h := cond_t h c4
      refine sr [(6, .emp), (7, vi 8)] [some (.row 3 [.agg [vt a2.Instrument, vt a2.Part, vi a2.Count]]), some (.row 2 [.agg [eS 3 eStocked a0, .own 2 0 v5.length]]), some (.row 1 (List.map vi v5))] ?_
      refine TriE.ret ?_
      have h := Option.some.inj h
      subst h
      exact DoneS.ret (S' := ⟨[(6, eS 3 ePartPromise ([] : List PartPromise)), (7, vi 8)], []⟩) (Sees.trans (Sees.vco (fr' := [(6, eS 3 ePartPromise ([] : List PartPromise)), (7, vi 8)]) (.cons .sl (.cons .same .nil))) (sc [] (by decide) (by kernel_rfl) ObRen.nil rfl rfl)) rfl rfl
    have h := cond_f h c4
    refine TriE.skip ?_
    refine TriE.seq ?_
    refine sj ?_
    refine rn 2 [(1, eS 3 ePartPromise a1), (5, .ptr 0 0 0), (25, .ptr 1 0 0), (26, .agg [vt a2.Instrument, vt a2.Part, vi a2.Count])] [some (.row 3 [.agg [vt a2.Instrument, vt a2.Part, vi a2.Count]]), some (.row 2 [.agg [eS 3 eStocked a0, .own 2 0 v5.length]]), some (.row 1 (List.map vi v5))] ?_
    obtain ⟨y6, hy6, h⟩ := bind_some h
    refine RegJ.op (Op1.call (y' := vi y6.1) (obx := [some (.row 2 [.agg [eS 3 eStocked a0, .own 2 0 v5.length]]), some (.row 1 (List.map vi v5))]) (oby := [some (.row 2 [.agg [eS 3 eStocked a0, .own 2 0 v5.length]]), some (.row 1 (List.map vi y6.2))]) (ob2 := [some (.row 3 [.agg [vt a2.Instrument, vt a2.Part, vi a2.Count]]), some (.row 2 [.agg [eS 3 eStocked a0, .own 2 0 v5.length]]), some (.row 1 (List.map vi y6.2))]) _ _ (cy (I0 27 (.call 111 [(.t 25), (.t 26)]))) rfl (restore_shelf_take_ok n a0 v5 a2 y6 hy6) [1, 2] (by kernel_rfl) (.cons rfl (.cons rfl (.cons rfl .nil))) (by kernel_rfl) (by kernel_rfl) (.cons rfl (.same (row_ren vi_frz _ _ _) .nil)) (by kernel_rfl) (.cons rfl (.same (row_ren vi_frz _ _ _) .nil)) (by kernel_rfl)) ?_
    obtain ⟨c5, h⟩ := chk_some h
    refine RegJ.sees (S' := ⟨[(1, eS 3 ePartPromise a1), (5, .ptr 0 0 0), (25, .ptr 1 0 0), (26, .agg [vt a2.Instrument, vt a2.Part, vi a2.Count]), (27, vi y6.1)], [some (.row 3 [.agg [vt a2.Instrument, vt a2.Part, vi a2.Count]]), some (.row 2 [.agg [eS 3 eStocked a0, .own 2 0 y6.2.length]]), some (.row 1 (List.map vi y6.2))]⟩) (Sees.cov (Cov.mk2 (rs := [0, 1, 2]) (by decide) rfl rfl (.cons (.inl rfl) (.cons (.inl rfl) (.cons (.inl rfl) (.cons (.inl rfl) (.cons (.inl rfl) .nil))))) (.cons rfl (.cons (by rw [show v5.length = y6.2.length from of_decide_eq_true c5]; rfl) (obRen_row vi_frz rfl .nil))))) ?_
    refine jq 1 [(1, eS 3 ePartPromise a1), (5, .ptr 0 0 0), (10, vi y6.1)] [some (.row 3 [.agg [vt a2.Instrument, vt a2.Part, vi a2.Count]]), some (.row 2 [.agg [eS 3 eStocked a0, .own 2 0 y6.2.length]]), some (.row 1 (List.map vi y6.2))] ?_
    refine sr [(1, eS 3 ePartPromise a1), (5, .ptr 0 0 0), (10, vi y6.1), (29, vb (y6.1 != (0 : Int)))] [some (.row 3 [.agg [vt a2.Instrument, vt a2.Part, vi a2.Count]]), some (.row 2 [.agg [eS 3 eStocked a0, .own 2 0 y6.2.length]]), some (.row 1 (List.map vi y6.2))] ?_
    refine TriE.cond (b := (y6.1 != (0 : Int))) rfl (fun c6 => ?_) (fun c6 => ?_)
    · have h := cond_t h c6
      refine sr [(6, .emp), (7, vi y6.1)] [some (.row 3 [.agg [vt a2.Instrument, vt a2.Part, vi a2.Count]]), some (.row 2 [.agg [eS 3 eStocked a0, .own 2 0 y6.2.length]]), some (.row 1 (List.map vi y6.2))] ?_
      refine TriE.ret ?_
      have h := Option.some.inj h
      subst h
      exact DoneS.ret (S' := ⟨[(6, eS 3 ePartPromise ([] : List PartPromise)), (7, vi y6.1)], []⟩) (Sees.trans (Sees.vco (fr' := [(6, eS 3 ePartPromise ([] : List PartPromise)), (7, vi y6.1)]) (.cons .sl (.cons .same .nil))) (sc [] (by decide) (by kernel_rfl) ObRen.nil rfl rfl)) rfl rfl
    have h := cond_f h c6
    refine TriE.skip ?_
    refine TriE.seq ?_
    refine TriE.sees (Sees.less (fr' := [(1, eS 3 ePartPromise a1), (5, .ptr 0 0 0)]) (.cons rfl (.cons rfl .nil))) ?_
    refine TriE.draw (by kernel_rfl) ?_
    refine RegD.run 1 [(31, eS 3 ePartPromise a1), (1, eS 3 ePartPromise a1), (5, .ptr 0 0 0)] [some (.row 3 [.agg [vt a2.Instrument, vt a2.Part, vi a2.Count]]), some (.row 2 [.agg [eS 3 eStocked a0, .own 2 0 y6.2.length]]), some (.row 1 (List.map vi y6.2)), none] (by kernel_rfl) ?_
    obtain ⟨y7, hy7, h⟩ := bind_some h
    refine RegD.op (OpD.call (y' := .own 4 0 y7.length) (obx := []) (oby := [some (.row 3 (List.map ePartPromise y7))]) (ob2 := [some (.row 3 [.agg [vt a2.Instrument, vt a2.Part, vi a2.Count]]), some (.row 2 [.agg [eS 3 eStocked a0, .own 2 0 y6.2.length]]), some (.row 1 (List.map vi y6.2)), none, some (.row 3 (List.map ePartPromise y7)), none]) (tch := [4]) 1 _ _ (cy (I0 32 (.call 112 [(.t 31)]))) (slices_Clone_PartPromise_ok n a1 y7 hy7) [] (by kernel_rfl) (.cons rfl (.cons rfl .nil)) (by kernel_rfl) (by kernel_rfl) ObsRen.nil (by kernel_rfl) (.same (row_ren ePartPromise_frz _ _ _) .nil) (by kernel_rfl) rfl (.inl rfl)) ?_
    refine RegD.run 2 [(34, .own 7 0 1), (33, .agg [vt a2.Instrument, vt a2.Part, vi a2.Count]), (32, .own 4 0 y7.length), (31, eS 3 ePartPromise a1), (1, eS 3 ePartPromise a1), (5, .ptr 0 0 0)] [some (.row 3 [.agg [vt a2.Instrument, vt a2.Part, vi a2.Count]]), some (.row 2 [.agg [eS 3 eStocked a0, .own 2 0 y6.2.length]]), some (.row 1 (List.map vi y6.2)), none, some (.row 3 (List.map ePartPromise y7)), none, none, some (.row 3 [.agg [vt a2.Instrument, vt a2.Part, vi a2.Count]])] (by kernel_rfl) ?_
    obtain ⟨c7, h⟩ := chk_some h
    refine de (.own 8 0 ((y7 ++ ([a2] : List PartPromise)).length)) [some (.row 3 [.agg [vt a2.Instrument, vt a2.Part, vi a2.Count]]), some (.row 2 [.agg [eS 3 eStocked a0, .own 2 0 y6.2.length]]), some (.row 1 (List.map vi y6.2)), none, none, none, none, some (.row 3 [.agg [vt a2.Instrument, vt a2.Part, vi a2.Count]]), some (.row 3 (List.map ePartPromise (y7 ++ ([a2] : List PartPromise))))] (cy (I0 35 (.app 3 40 (.t 32) (.t 34)))) (ok_app_own (l := y7) (l2 := ([a2] : List PartPromise)) (e := ePartPromise) (u := .own 7 0 1) rfl rfl rfl rfl rfl c7) rfl rfl rfl ?_
    refine RegD.run 2 [(7, vi 0), (6, .own 8 0 ((y7 ++ ([a2] : List PartPromise)).length)), (35, .own 8 0 ((y7 ++ ([a2] : List PartPromise)).length)), (34, .own 7 0 1), (33, .agg [vt a2.Instrument, vt a2.Part, vi a2.Count]), (32, .own 4 0 y7.length), (31, eS 3 ePartPromise a1), (1, eS 3 ePartPromise a1), (5, .ptr 0 0 0)] [some (.row 3 [.agg [vt a2.Instrument, vt a2.Part, vi a2.Count]]), some (.row 2 [.agg [eS 3 eStocked a0, .own 2 0 y6.2.length]]), some (.row 1 (List.map vi y6.2)), none, none, none, none, some (.row 3 [.agg [vt a2.Instrument, vt a2.Part, vi a2.Count]]), some (.row 3 (List.map ePartPromise (y7 ++ ([a2] : List PartPromise)))), none, none] (by kernel_rfl) ?_
    refine RegD.done rfl (by kernel_rfl) (S' := ⟨[(6, .own 0 0 ((y7 ++ ([a2] : List PartPromise)).length)), (7, vi 0)], [some (.row 3 (List.map ePartPromise (y7 ++ ([a2] : List PartPromise))))]⟩) (sc [8] (by decide) (by kernel_rfl) (obRen_row ePartPromise_frz rfl .nil) rfl rfl) ?_
    refine TriE.ret ?_
    have h := Option.some.inj h
    subst h
    exact DoneS.ret (S' := ⟨[(6, eS 3 ePartPromise (y7 ++ ([a2] : List PartPromise))), (7, vi 0)], []⟩) (Sees.trans (Sees.freeze 0 (fr' := [(6, eS 3 ePartPromise (y7 ++ ([a2] : List PartPromise))), (7, vi 0)]) (ob' := [none]) rfl (frz_row ePartPromise_frzE _) (.cons (frz_full rfl) (.cons (.refl _) .nil)) rfl) (sc [] (by decide) (by kernel_rfl) ObRen.nil rfl rfl)) rfl rfl
  intro k1 k2 h
  refine TriE.regJ ?_
  refine rn 2 [(1, eS 3 ePartPromise a1), (5, .ptr 0 0 0), (12, eS 3 eStocked a0), (13, eS 3 ePartPromise a1)] [some (.row 3 [.agg [vt a2.Instrument, vt a2.Part, vi a2.Count]])] ?_
  obtain ⟨y1, hy1, h⟩ := bind_some h
  rcases y1 with y1 | y1
  · dsimp only at h
    refine RegJ.op (Op1.call (y' := .tup [.p (.pointer none), vi y1]) (obx := []) (oby := []) (ob2 := [some (.row 3 [.agg [vt a2.Instrument, vt a2.Part, vi a2.Count]])]) _ _ (cy (I0 14 (.call 107 [(.t 12), (.t 13)]))) rfl (restore_shelfOf_ok n a0 a1 (Sum.inl y1) hy1) [] (by kernel_rfl) (.cons rfl (.cons rfl (.cons rfl .nil))) (by kernel_rfl) (by kernel_rfl) ObsRen.nil (by kernel_rfl) ObsRen.nil (by kernel_rfl)) ?_
    refine jq 5 [(1, eS 3 ePartPromise a1), (5, .ptr 0 0 0), (8, .p (.pointer none)), (9, vi y1)] [some (.row 3 [.agg [vt a2.Instrument, vt a2.Part, vi a2.Count]])] ?_
    exact Vs.intro Sees.refl (.inl ⟨y1, rfl, h⟩)
  dsimp only at h
  refine RegJ.op (Op1.call (y' := .tup [.ptr 1 0 0, vi 0]) (obx := []) (oby := [some (.row 2 [.agg [eS 3 eStocked a0, .own 2 0 y1.length]]), some (.row 1 (List.map vi y1))]) (ob2 := [some (.row 3 [.agg [vt a2.Instrument, vt a2.Part, vi a2.Count]]), some (.row 2 [.agg [eS 3 eStocked a0, .own 2 0 y1.length]]), some (.row 1 (List.map vi y1))]) _ _ (cy (I0 14 (.call 107 [(.t 12), (.t 13)]))) rfl (restore_shelfOf_ok n a0 a1 (Sum.inr y1) hy1) [] (by kernel_rfl) (.cons rfl (.cons rfl (.cons rfl .nil))) (by kernel_rfl) (by kernel_rfl) ObsRen.nil (by kernel_rfl) (.cons rfl (.same (row_ren vi_frz _ _ _) .nil)) (by kernel_rfl)) ?_
  refine jq 5 [(1, eS 3 ePartPromise a1), (5, .ptr 0 0 0), (8, .ptr 1 0 0), (9, vi 0)] [some (.row 3 [.agg [vt a2.Instrument, vt a2.Part, vi a2.Count]]), some (.row 2 [.agg [eS 3 eStocked a0, .own 2 0 y1.length]]), some (.row 1 (List.map vi y1))] ?_
  exact Vs.intro Sees.refl (.inr ⟨y1, rfl, h⟩)
theorem restore_LeftOf_ok (n : Nat) (a0 : List Stocked) (a1 : List PartPromise) (r : Int × (List PartCount)) (h : restore_LeftOf n a0 a1 = some r) : FnL Tryz.prog 47 [eS 3 eStocked a0, eS 3 ePartPromise a1] [] (.tup [eS 2 ePartCount r.2, vi r.1]) [] := by
  dsimp only [restore_LeftOf] at h
  refine FnL.ofS (ts := [4, 5]) Tryz.call47 Tryz.func47 rfl rfl (Nat.le_of_ble_eq_true rfl) (Nat.le_of_ble_eq_true rfl) (fun j h => absurd h (Nat.not_lt_zero j)) ?_
  refine sr [(0, eS 3 eStocked a0), (1, eS 3 ePartPromise a1)] [] ?_
  refine TriE.seqK2 h (fun (v4 : Int) => St.mk [(0, eS 3 eStocked a0), (6, .p (.pointer none)), (7, vi v4)] []) (fun (v5 : (List Int)) => St.mk [(0, eS 3 eStocked a0), (6, .ptr 0 0 0), (7, vi 0)] [some (.row 2 [.agg [eS 3 eStocked a0, .own 1 0 v5.length]]), some (.row 1 (List.map vi v5))]) ?_ ?_ ?_
  · rintro v4 h
    refine TriE.seq ?_
    refine sr [(0, eS 3 eStocked a0), (6, .p (.pointer none)), (7, vi v4), (18, vb (v4 != (0 : Int)))] [] ?_
    refine TriE.cond (b := (v4 != (0 : Int))) rfl (fun c1 => ?_) (fun c1 => ?_)
    · have h := cond_t h c1
      refine sr [(4, .emp), (5, vi v4)] [] ?_
      refine TriE.ret ?_
      have h := Option.some.inj h
      subst h
      exact DoneS.ret (S' := ⟨[(4, eS 2 ePartCount ([] : List PartCount)), (5, vi v4)], []⟩) (Sees.trans (Sees.vco (fr' := [(4, eS 2 ePartCount ([] : List PartCount)), (5, vi v4)]) (.cons .sl (.cons .same .nil))) sy) rfl rfl
    have h := cond_f h c1
    refine TriE.skip ?_
    refine sr [(0, eS 3 eStocked a0), (6, .p (.pointer none)), (8, .emp)] [] ?_
    refine TriE.seq ?_
    refine sj ?_
    refine rn 1 [(0, eS 3 eStocked a0), (8, .emp), (20, .p (.pointer none))] [] ?_
    cases h
  · rintro v5 h
    refine TriE.seq ?_
    refine sr [(0, eS 3 eStocked a0), (6, .ptr 0 0 0), (7, vi 0), (18, vb false)] [some (.row 2 [.agg [eS 3 eStocked a0, .own 1 0 v5.length]]), some (.row 1 (List.map vi v5))] ?_
    refine TriE.cond (b := false) rfl (fun c2 => ?_) (fun c2 => ?_)
    · cases c2
    refine TriE.skip ?_
    refine sr [(0, eS 3 eStocked a0), (6, .ptr 0 0 0), (8, .emp)] [some (.row 2 [.agg [eS 3 eStocked a0, .own 1 0 v5.length]]), some (.row 1 (List.map vi v5))] ?_
    refine TriE.seqK h (fun (v8 : (List PartCount)) => St.mk [(8, .own 0 0 v8.length)] [some (.row 2 (List.map ePartCount v8))]) ?_ ?_
    · rintro v8 h
      refine sr [(4, .own 0 0 v8.length), (5, vi 0)] [some (.row 2 (List.map ePartCount v8))] ?_
      refine TriE.ret ?_
      have h := Option.some.inj h
      subst h
      exact DoneS.ret (S' := ⟨[(4, eS 2 ePartCount v8), (5, vi 0)], []⟩) (Sees.trans (Sees.freeze 0 (fr' := [(4, eS 2 ePartCount v8), (5, vi 0)]) (ob' := [none]) rfl (frz_row ePartCount_frzE _) (.cons (frz_full rfl) (.cons (.refl _) .nil)) rfl) (sc [] (by decide) (by kernel_rfl) ObRen.nil rfl rfl)) rfl rfl
    intro k3 h
    refine sr [(0, eS 3 eStocked a0), (8, .emp), (23, .own 1 0 v5.length), (24, vi (v5.length : Int)), (25, vi 0)] [some (.row 2 [.agg [eS 3 eStocked a0, .own 1 0 v5.length]]), some (.row 1 (List.map vi v5))] ?_
    refine TriE.block ?_
    refine TriE.sees (S' := ⟨[(0, eS 3 eStocked a0), (8, .own 1 0 ([] : List PartCount).length), (23, .own 0 0 v5.length), (24, vi (v5.length : Int)), (25, vi 0)], [some (.row 1 (List.map vi v5)), some (.row 2 (List.map ePartCount ([] : List PartCount)))]⟩) (Sees.trans (Sees.co (fr' := [(0, eS 3 eStocked a0), (8, .own 2 0 0), (23, .own 1 0 v5.length), (24, vi (v5.length : Int)), (25, vi 0)]) (ob' := [some (.row 2 [.agg [eS 3 eStocked a0, .own 1 0 v5.length]]), some (.row 1 (List.map vi v5))]) (.cons .same (.cons .own (.cons .same (.cons .same (.cons .same .nil))))) (.same (.same .nil)) 2) (sc [1, 2] (by decide) (by kernel_rfl) (obRen_row vi_frz rfl (obRen_row ePartCount_frz rfl .nil)) rfl rfl)) ?_
    refine TriE.loopN h (fun (t : (List PartCount) × Nat) => match t with | (v6, v7) => St.mk [(0, eS 3 eStocked a0), (8, .own 1 0 v6.length), (23, .own 0 0 v5.length), (24, vi (v5.length : Int)), (25, vi v7)] [some (.row 1 (List.map vi v5)), some (.row 2 (List.map ePartCount v6))]) rfl ?_
    clear h
    rintro back ⟨v6, v7⟩ h
    dsimp only [restore_LeftOf_L1] at h
    refine sj ?_
    refine jv (vb (decide (v7 < v5.length))) (cy (I0 26 (.bin .lss false (.t 25) (.t 24)))) (n_lss (i := v7) (j := v5.length) rfl rfl) rfl ?_
    refine jp [(0, eS 3 eStocked a0), (8, .own 1 0 v6.length), (23, .own 0 0 v5.length), (24, vi (v5.length : Int)), (25, vi v7), (26, vb (decide (v7 < v5.length)))] ?_
    refine TriE.seq ?_
    refine TriE.cond (b := decide (v7 < v5.length)) rfl (fun c3 => ?_) (fun c3 => ?_)
    · have h := cond_t h c3
      refine TriE.skip ?_
      refine TriE.seq ?_
      refine TriE.block ?_
      refine sj ?_
      refine rn 1 [(0, eS 3 eStocked a0), (8, .own 1 0 v6.length), (23, .own 0 0 v5.length), (24, vi (v5.length : Int)), (25, vi v7), (27, vi v7)] [some (.row 1 (List.map vi v5)), some (.row 2 (List.map ePartCount v6))] ?_
      refine jv (.ptr 0 v7 0) (cy (I0 28 (.iaddr 1 (.t 23) (.t 25)))) (ok_iaddr_o0 (j := v7) rfl rfl rfl rfl c3) rfl ?_
      refine jv (vi (ix v5 v7)) (cy (I0 29 (.load false 1 (.t 28)))) (ok_load_pm (l := v5) (e := vi) (v := vi (ix v5 v7)) rfl rfl c3 rfl) rfl ?_
      refine jq 2 [(0, eS 3 eStocked a0), (8, .own 1 0 v6.length), (23, .own 0 0 v5.length), (24, vi (v5.length : Int)), (25, vi v7), (9, vi v7), (10, vi (ix v5 v7))] [some (.row 1 (List.map vi v5)), some (.row 2 (List.map ePartCount v6))] ?_
      refine TriE.regJ ?_
      refine rn 3 [(0, eS 3 eStocked a0), (23, .own 0 0 v5.length), (24, vi (v5.length : Int)), (25, vi v7), (10, vi (ix v5 v7)), (30, .own 1 0 v6.length), (31, eS 3 eStocked a0), (32, vi v7)] [some (.row 1 (List.map vi v5)), some (.row 2 (List.map ePartCount v6))] ?_
      obtain ⟨c4, h⟩ := chk_some h
      refine jv (.fptr 3 (List.map eStocked a0) v7 0) (cy (I0 33 (.iaddr 3 (.t 31) (.t 32)))) (ok_iaddr_m (j := v7) rfl rfl rfl c4) rfl ?_
      refine rn 1 [(0, eS 3 eStocked a0), (23, .own 0 0 v5.length), (24, vi (v5.length : Int)), (25, vi v7), (10, vi (ix v5 v7)), (30, .own 1 0 v6.length), (34, .fptr 3 (List.map eStocked a0) v7 0)] [some (.row 1 (List.map vi v5)), some (.row 2 (List.map ePartCount v6))] ?_
      refine jv (vt ((ix a0 v7).Part)) (cy (I0 35 (.load false 1 (.t 34)))) (ok_load_fm (v := vt ((ix a0 v7).Part)) rfl c4 rfl) rfl ?_
      refine rn 3 [(0, eS 3 eStocked a0), (23, .own 0 0 v5.length), (24, vi (v5.length : Int)), (25, vi v7), (30, .own 1 0 v6.length), (38, .own 2 0 1)] [some (.row 1 (List.map vi v5)), some (.row 2 (List.map ePartCount v6)), some (.row 2 [.agg [vt ((ix a0 v7).Part), vi (ix v5 v7)]])] ?_
      obtain ⟨c5, h⟩ := chk_some h
      refine je (.own 3 0 ((v6 ++ ([(PartCount.mk ((ix a0 v7).Part) (ix v5 v7))] : List PartCount)).length)) [some (.row 1 (List.map vi v5)), none, some (.row 2 [.agg [vt ((ix a0 v7).Part), vi (ix v5 v7)]]), some (.row 2 (List.map ePartCount (v6 ++ ([(PartCount.mk ((ix a0 v7).Part) (ix v5 v7))] : List PartCount))))] (cy (I0 39 (.app 2 24 (.t 30) (.t 38)))) (ok_app_own (l := v6) (l2 := ([(PartCount.mk ((ix a0 v7).Part) (ix v5 v7))] : List PartCount)) (e := ePartCount) (u := .own 2 0 1) rfl rfl rfl rfl rfl c5) rfl rfl rfl ?_
      refine jq 1 [(0, eS 3 eStocked a0), (23, .own 0 0 v5.length), (24, vi (v5.length : Int)), (25, vi v7), (8, .own 3 0 ((v6 ++ ([(PartCount.mk ((ix a0 v7).Part) (ix v5 v7))] : List PartCount)).length))] [some (.row 1 (List.map vi v5)), none, some (.row 2 [.agg [vt ((ix a0 v7).Part), vi (ix v5 v7)]]), some (.row 2 (List.map ePartCount (v6 ++ ([(PartCount.mk ((ix a0 v7).Part) (ix v5 v7))] : List PartCount))))] ?_
      refine TriE.regJ ?_
      obtain ⟨c6, h⟩ := chk_some h
      refine jv (vi ((v7 + 1 : Nat) : Int)) (cy (I0 40 (.bin .add false (.t 25) (.c (.p (.int .i64 1)))))) (r_addn (i := v7) (j := 1) rfl rfl c6) rfl ?_
      refine jq 1 [(0, eS 3 eStocked a0), (23, .own 0 0 v5.length), (24, vi (v5.length : Int)), (8, .own 3 0 ((v6 ++ ([(PartCount.mk ((ix a0 v7).Part) (ix v5 v7))] : List PartCount)).length)), (25, vi ((v7 + 1 : Nat) : Int))] [some (.row 1 (List.map vi v5)), none, some (.row 2 [.agg [vt ((ix a0 v7).Part), vi (ix v5 v7)]]), some (.row 2 (List.map ePartCount (v6 ++ ([(PartCount.mk ((ix a0 v7).Part) (ix v5 v7))] : List PartCount))))] ?_
      exact Vs.intro (sc [0, 3] (by decide) (by kernel_rfl) (obRen_row vi_frz rfl (obRen_row ePartCount_frz rfl .nil)) rfl rfl) ⟨((v6 ++ ([(PartCount.mk ((ix a0 v7).Part) (ix v5 v7))] : List PartCount)), v7 + 1), rfl, h⟩
    have h := cond_f h c3
    refine TriE.exit ?_
    exact Vs.intro (sc [1] (by decide) (by kernel_rfl) (obRen_row ePartCount_frz rfl .nil) rfl rfl) ⟨v6, rfl, h⟩
  intro k1 k2 h
  refine TriE.regJ ?_
  refine rn 2 [(0, eS 3 eStocked a0), (12, eS 3 eStocked a0), (13, eS 3 ePartPromise a1)] [] ?_
  obtain ⟨y1, hy1, h⟩ := bind_some h
  rcases y1 with y1 | y1
  · dsimp only at h
    refine RegJ.op (Op1.call (y' := .tup [.p (.pointer none), vi y1]) (obx := []) (oby := []) (ob2 := []) _ _ (cy (I0 14 (.call 107 [(.t 12), (.t 13)]))) rfl (restore_shelfOf_ok n a0 a1 (Sum.inl y1) hy1) [] (by kernel_rfl) (.cons rfl (.cons rfl (.cons rfl .nil))) (by kernel_rfl) (by kernel_rfl) ObsRen.nil (by kernel_rfl) ObsRen.nil (by kernel_rfl)) ?_
    refine jq 5 [(0, eS 3 eStocked a0), (6, .p (.pointer none)), (7, vi y1)] [] ?_
    exact Vs.intro Sees.refl (.inl ⟨y1, rfl, h⟩)
  dsimp only at h
  refine RegJ.op (Op1.call (y' := .tup [.ptr 0 0 0, vi 0]) (obx := []) (oby := [some (.row 2 [.agg [eS 3 eStocked a0, .own 1 0 y1.length]]), some (.row 1 (List.map vi y1))]) (ob2 := [some (.row 2 [.agg [eS 3 eStocked a0, .own 1 0 y1.length]]), some (.row 1 (List.map vi y1))]) _ _ (cy (I0 14 (.call 107 [(.t 12), (.t 13)]))) rfl (restore_shelfOf_ok n a0 a1 (Sum.inr y1) hy1) [] (by kernel_rfl) (.cons rfl (.cons rfl (.cons rfl .nil))) (by kernel_rfl) (by kernel_rfl) ObsRen.nil (by kernel_rfl) (.cons rfl (.same (row_ren vi_frz _ _ _) .nil)) (by kernel_rfl)) ?_
  refine jq 5 [(0, eS 3 eStocked a0), (6, .ptr 0 0 0), (7, vi 0)] [some (.row 2 [.agg [eS 3 eStocked a0, .own 1 0 y1.length]]), some (.row 1 (List.map vi y1))] ?_
  exact Vs.intro Sees.refl (.inr ⟨y1, rfl, h⟩)
theorem agraffebase_isLetter_ok (n : Nat) (a0 : Int) (r : Unit) (h : agraffebase_isLetter n a0 = some r) : FnL Tryz.prog 159 [vk .u8 a0] [] (vb (((decide ((97 : Int) ≤ a0)) && (decide (a0 ≤ (122 : Int)))) || ((decide ((65 : Int) ≤ a0)) && (decide (a0 ≤ (90 : Int)))))) [] := by
  dsimp only [agraffebase_isLetter] at h
  refine FnL.ofS (ts := [2]) Tryz.call159 Tryz.func159 rfl rfl (Nat.le_of_ble_eq_true rfl) (Nat.le_of_ble_eq_true rfl) (fun j h => absurd h (Nat.not_lt_zero j)) ?_
  refine sr [(0, vk .u8 a0)] [] ?_
  refine sj ?_
  refine rn 3 [(0, vk .u8 a0), (5, vb (decide ((97 : Int) ≤ a0)))] [] ?_
  refine RegJ.op (Op1.valk (v := vk .u8 a0) _ _ (cy (IG 6 (.mov (.t 0)) 5 true)) rfl (by kernel_rfl) (fun hg => (.cons rfl .nil))) ?_
  refine RegJ.op (Op1.valk (v := vb (decide (a0 ≤ (122 : Int)))) _ _ (cy (IG 7 (.bin .leq false (.t 6) (.c (.p (.int .u8 122)))) 5 true)) rfl (by kernel_rfl) (fun hg => (.cons hg (.cons rfl .nil)))) ?_
  refine RegJ.op (Op1.and (cy (I0 8 (.pick (.t 5) (.t 7) (.c (.p (.bool false)))))) rfl rfl (by first | exact hokA1 | exact hokA0 | simp)) ?_
  refine rn 1 [(0, vk .u8 a0), (9, vb ((decide ((97 : Int) ≤ a0)) && (decide (a0 ≤ (122 : Int)))))] [] ?_
  refine RegJ.op (Op1.valk (v := vk .u8 a0) _ _ (cy (IG 10 (.mov (.t 0)) 9 false)) rfl (by kernel_rfl) (fun hg => (.cons rfl .nil))) ?_
  refine RegJ.op (Op1.valk (v := vb (decide ((65 : Int) ≤ a0))) _ _ (cy (IG 11 (.bin .geq false (.t 10) (.c (.p (.int .u8 65)))) 9 false)) rfl (by kernel_rfl) (fun hg => (.cons hg (.cons rfl .nil)))) ?_
  refine RegJ.op (Op1.valk (v := vb (decide ((65 : Int) ≤ a0))) _ _ (cy (IG 12 (.mov (.t 11)) 9 false)) rfl (by kernel_rfl) (fun hg => (.cons hg .nil))) ?_
  refine RegJ.op (Op1.valk (v := vk .u8 a0) _ _ (cy (IG 13 (.mov (.t 0)) 12 true)) rfl (by kernel_rfl) (fun hg => (.cons rfl .nil))) ?_
  refine RegJ.op (Op1.valk (v := vb (decide (a0 ≤ (90 : Int)))) _ _ (cy (IG 14 (.bin .leq false (.t 13) (.c (.p (.int .u8 90)))) 12 true)) rfl (by kernel_rfl) (fun hg => (.cons hg (.cons rfl .nil)))) ?_
  refine RegJ.op (Op1.andg (g := !((decide ((97 : Int) ≤ a0)) && (decide (a0 ≤ (122 : Int))))) (cy (IG 15 (.pick (.t 12) (.t 14) (.c (.p (.bool false)))) 9 false)) rfl rfl rfl (fun hg => by first | exact hokA2 hg | exact hokA3 hg | exact hokA1 | exact hokA0 | (rw [hg]; simp) | simp_all)) ?_
  refine RegJ.op (Op1.or (cy (I0 16 (.pick (.t 9) (.c (.p (.bool true))) (.t 15)))) rfl rfl (by first | exact hokO1 | exact hokO0 | simp)) ?_
  refine jq 1 [(2, vb (((decide ((97 : Int) ≤ a0)) && (decide (a0 ≤ (122 : Int)))) || ((decide ((65 : Int) ≤ a0)) && (decide (a0 ≤ (90 : Int))))))] [] ?_
  refine TriE.ret ?_
  have h := Option.some.inj h
  subst h
  exact DoneS.ret (S' := ⟨[(2, vb (((decide ((97 : Int) ≤ a0)) && (decide (a0 ≤ (122 : Int)))) || ((decide ((65 : Int) ≤ a0)) && (decide (a0 ≤ (90 : Int))))))], []⟩) Sees.refl rfl rfl
theorem agraffebase_isDigit_ok (n : Nat) (a0 : Int) (r : Unit) (h : agraffebase_isDigit n a0 = some r) : FnL Tryz.prog 160 [vk .u8 a0] [] (vb ((decide ((48 : Int) ≤ a0)) && (decide (a0 ≤ (57 : Int))))) [] := by
  dsimp only [agraffebase_isDigit] at h
  refine FnL.ofS (ts := [2]) Tryz.call160 Tryz.func160 rfl rfl (Nat.le_of_ble_eq_true rfl) (Nat.le_of_ble_eq_true rfl) (fun j h => absurd h (Nat.not_lt_zero j)) ?_
  refine sr [(0, vk .u8 a0)] [] ?_
  refine sj ?_
  refine rn 3 [(0, vk .u8 a0), (5, vb (decide ((48 : Int) ≤ a0)))] [] ?_
  refine RegJ.op (Op1.valk (v := vk .u8 a0) _ _ (cy (IG 6 (.mov (.t 0)) 5 true)) rfl (by kernel_rfl) (fun hg => (.cons rfl .nil))) ?_
  refine RegJ.op (Op1.valk (v := vb (decide (a0 ≤ (57 : Int)))) _ _ (cy (IG 7 (.bin .leq false (.t 6) (.c (.p (.int .u8 57)))) 5 true)) rfl (by kernel_rfl) (fun hg => (.cons hg (.cons rfl .nil)))) ?_
  refine RegJ.op (Op1.and (cy (I0 8 (.pick (.t 5) (.t 7) (.c (.p (.bool false)))))) rfl rfl (by first | exact hokA1 | exact hokA0 | simp)) ?_
  refine jq 1 [(2, vb ((decide ((48 : Int) ≤ a0)) && (decide (a0 ≤ (57 : Int)))))] [] ?_
  refine TriE.ret ?_
  have h := Option.some.inj h
  subst h
  exact DoneS.ret (S' := ⟨[(2, vb ((decide ((48 : Int) ≤ a0)) && (decide (a0 ≤ (57 : Int)))))], []⟩) Sees.refl rfl rfl
theorem agraffebase_IsName_ok (n : Nat) (a0 : Str) (r : Bool) (h : agraffebase_IsName n a0 = some r) : FnL Tryz.prog 92 [vt a0] [] (vb r) [] := by
  dsimp only [agraffebase_IsName] at h
  refine FnL.ofS (ts := [2]) Tryz.call92 Tryz.func92 rfl rfl (Nat.le_of_ble_eq_true rfl) (Nat.le_of_ble_eq_true rfl) (fun j h => absurd h (Nat.not_lt_zero j)) ?_
  refine sr [(0, vt a0)] [] ?_
  refine TriE.seq ?_
  refine sj ?_
  refine rn 1 [(0, vt a0), (4, vt a0)] [] ?_
  refine jv (vi (a0.length : Int)) (cy (I0 5 (.len 1 (.t 4)))) (ok_len_t rfl) rfl ?_
  refine jv (vb (decide (a0.length = 0))) (cy (I0 6 (.bin .eql false (.t 5) (.c (.p (.int .i64 0)))))) (n_eql (i := a0.length) (j := 0) rfl rfl) rfl ?_
  refine rn 1 [(0, vt a0), (7, vb (decide (a0.length = 0)))] [] ?_
  refine RegJ.op (Op1.valk (v := vt a0) _ _ (cy (IG 8 (.mov (.t 0)) 7 false)) rfl (by kernel_rfl) (fun hg => (.cons rfl .nil))) ?_
  refine RegJ.op (Op1.valg (v := vi (a0.length : Int)) _ _ (cy (IG 9 (.len 1 (.t 8)) 7 false)) rfl (fun hg => (ok_len_t rfl)) (fun hg => (.cons hg .nil))) ?_
  refine RegJ.op (Op1.valg (v := vb (decide (12 < a0.length))) _ _ (cy (IG 10 (.bin .gtr false (.t 9) (.c (.p (.int .i64 12)))) 7 false)) rfl (fun hg => (n_gtr (i := a0.length) (j := 12) rfl rfl)) (fun hg => (.cons hg (.cons rfl .nil)))) ?_
  refine RegJ.op (Op1.or (cy (I0 11 (.pick (.t 7) (.c (.p (.bool true))) (.t 10)))) rfl rfl (by first | exact hokO1 | exact hokO0 | simp)) ?_
  refine rn 1 [(0, vt a0), (12, vb ((decide (a0.length = 0)) || (decide (12 < a0.length))))] [] ?_
  refine RegJ.op (Op1.valk (v := vt a0) _ _ (cy (IG 13 (.mov (.t 0)) 12 false)) rfl (by kernel_rfl) (fun hg => (.cons rfl .nil))) ?_
  obtain ⟨c1, h⟩ := chk_some h
  refine RegJ.op (Op1.valg (v := vk .u8 (((List.getD a0 0 0).toNat : Nat) : Int)) _ _ (cy (IG 14 (.sidx (.t 13) (.c (.p (.int .i64 0)))) 12 false)) rfl (fun hg => (ok_sidx_t (j := 0) rfl rfl rfl (gor c1 hg))) (fun hg => (.cons hg (.cons rfl .nil)))) ?_
  obtain ⟨y1, hy1, h⟩ := bind_some h
  refine RegJ.op (Op1.callg (g := !((decide (a0.length = 0)) || (decide (12 < a0.length)))) (y' := vb (((decide ((97 : Int) ≤ (((List.getD a0 0 0).toNat : Nat) : Int))) && (decide ((((List.getD a0 0 0).toNat : Nat) : Int) ≤ (122 : Int)))) || ((decide ((65 : Int) ≤ (((List.getD a0 0 0).toNat : Nat) : Int))) && (decide ((((List.getD a0 0 0).toNat : Nat) : Int) ≤ (90 : Int)))))) (obx := []) _ _ (cy (IG 15 (.call 159 [(.t 14)]) 12 false)) rfl (fun hg => agraffebase_isLetter_ok n (((List.getD a0 0 0).toNat : Nat) : Int) y1 (gcall_some hy1 hg)) [] (fun hg => by kernel_rfl) (fun hg => (.cons rfl (.cons hg .nil))) (by kernel_rfl) (by kernel_rfl) ObsRen.nil (by kernel_rfl) (by kernel_rfl)) ?_
  refine RegJ.op (Op1.valk (v := vb (!(((decide ((97 : Int) ≤ (((List.getD a0 0 0).toNat : Nat) : Int))) && (decide ((((List.getD a0 0 0).toNat : Nat) : Int) ≤ (122 : Int)))) || ((decide ((65 : Int) ≤ (((List.getD a0 0 0).toNat : Nat) : Int))) && (decide ((((List.getD a0 0 0).toNat : Nat) : Int) ≤ (90 : Int))))))) _ _ (cy (IG 16 (.un .not (.t 15)) 12 false)) rfl (by kernel_rfl) (fun hg => (.cons hg .nil))) ?_
  refine RegJ.op (Op1.or (cy (I0 17 (.pick (.t 12) (.c (.p (.bool true))) (.t 16)))) rfl rfl (by first | exact hokO1 | exact hokO0 | simp)) ?_
  refine jp [(0, vt a0), (17, vb (((decide (a0.length = 0)) || (decide (12 < a0.length))) || (!(((decide ((97 : Int) ≤ (((List.getD a0 0 0).toNat : Nat) : Int))) && (decide ((((List.getD a0 0 0).toNat : Nat) : Int) ≤ (122 : Int)))) || ((decide ((65 : Int) ≤ (((List.getD a0 0 0).toNat : Nat) : Int))) && (decide ((((List.getD a0 0 0).toNat : Nat) : Int) ≤ (90 : Int))))))))] ?_
  refine TriE.cond (b := ((decide (a0.length = 0)) || (decide (12 < a0.length))) || (!(((decide ((97 : Int) ≤ (((List.getD a0 0 0).toNat : Nat) : Int))) && (decide ((((List.getD a0 0 0).toNat : Nat) : Int) ≤ (122 : Int)))) || ((decide ((65 : Int) ≤ (((List.getD a0 0 0).toNat : Nat) : Int))) && (decide ((((List.getD a0 0 0).toNat : Nat) : Int) ≤ (90 : Int))))))) rfl (fun c2 => ?_) (fun c2 => ?_)
  · have h := cond_t h c2
    refine sr [(2, vb false)] [] ?_
    refine TriE.ret ?_
    have h := Option.some.inj h
    subst h
    exact DoneS.ret (S' := ⟨[(2, vb false)], []⟩) Sees.refl rfl rfl
  have h := cond_f h c2
  refine TriE.skip ?_
  refine TriE.seqK h (fun (_ : Unit) => St.mk [] []) ?_ ?_
  · rintro ⟨⟩ h
    refine sr [(2, vb true)] [] ?_
    refine TriE.ret ?_
    have h := Option.some.inj h
    subst h
    exact DoneS.ret (S' := ⟨[(2, vb true)], []⟩) Sees.refl rfl rfl
  intro k1 h
  refine sr [(0, vt a0), (3, vi 0)] [] ?_
  refine TriE.block ?_
  refine TriE.sees (S' := ⟨[(0, vt a0), (3, vi 0)], []⟩) sy ?_
  refine TriE.loopN h (fun (v4 : Nat) => St.mk [(0, vt a0), (3, vi v4)] []) rfl ?_
  clear h
  rintro back v4 h
  dsimp only [agraffebase_IsName_L1] at h
  refine TriE.seq ?_
  refine sj ?_
  refine rn 2 [(0, vt a0), (3, vi v4), (18, vi v4), (19, vt a0)] [] ?_
  refine jv (vi (a0.length : Int)) (cy (I0 20 (.len 1 (.t 19)))) (ok_len_t rfl) rfl ?_
  refine jv (vb (decide (v4 < a0.length))) (cy (I0 21 (.bin .lss false (.t 18) (.t 20)))) (n_lss (i := v4) (j := a0.length) rfl rfl) rfl ?_
  refine jp [(0, vt a0), (3, vi v4), (21, vb (decide (v4 < a0.length)))] ?_
  refine TriE.cond (b := decide (v4 < a0.length)) rfl (fun c3 => ?_) (fun c3 => ?_)
  · have h := cond_t h c3
    refine TriE.skip ?_
    refine TriE.seq ?_
    refine TriE.block ?_
    refine sj ?_
    refine rn 2 [(0, vt a0), (3, vi v4), (24, vt a0), (25, vi v4)] [] ?_
    refine jv (vk .u8 (((List.getD a0 v4 0).toNat : Nat) : Int)) (cy (I0 26 (.sidx (.t 24) (.t 25)))) (ok_sidx_t (j := v4) rfl rfl rfl c3) rfl ?_
    obtain ⟨y5, hy5, h⟩ := bind_some h
    refine RegJ.op (Op1.call (y' := vb (((decide ((97 : Int) ≤ (((List.getD a0 v4 0).toNat : Nat) : Int))) && (decide ((((List.getD a0 v4 0).toNat : Nat) : Int) ≤ (122 : Int)))) || ((decide ((65 : Int) ≤ (((List.getD a0 v4 0).toNat : Nat) : Int))) && (decide ((((List.getD a0 v4 0).toNat : Nat) : Int) ≤ (90 : Int)))))) (obx := []) (oby := []) (ob2 := []) _ _ (cy (I0 27 (.call 159 [(.t 26)]))) rfl (agraffebase_isLetter_ok n (((List.getD a0 v4 0).toNat : Nat) : Int) y5 hy5) [] (by kernel_rfl) (.cons rfl (.cons rfl .nil)) (by kernel_rfl) (by kernel_rfl) ObsRen.nil (by kernel_rfl) ObsRen.nil (by kernel_rfl)) ?_
    refine rn 2 [(0, vt a0), (3, vi v4), (29, vb (!(((decide ((97 : Int) ≤ (((List.getD a0 v4 0).toNat : Nat) : Int))) && (decide ((((List.getD a0 v4 0).toNat : Nat) : Int) ≤ (122 : Int)))) || ((decide ((65 : Int) ≤ (((List.getD a0 v4 0).toNat : Nat) : Int))) && (decide ((((List.getD a0 v4 0).toNat : Nat) : Int) ≤ (90 : Int)))))))] [] ?_
    refine RegJ.op (Op1.valk (v := vt a0) _ _ (cy (IG 30 (.mov (.t 0)) 29 true)) rfl (by kernel_rfl) (fun hg => (.cons rfl .nil))) ?_
    refine RegJ.op (Op1.valk (v := vi v4) _ _ (cy (IG 31 (.mov (.t 3)) 29 true)) rfl (by kernel_rfl) (fun hg => (.cons rfl .nil))) ?_
    refine RegJ.op (Op1.valg (v := vk .u8 (((List.getD a0 v4 0).toNat : Nat) : Int)) _ _ (cy (IG 32 (.sidx (.t 30) (.t 31)) 29 true)) rfl (fun hg => (ok_sidx_t (j := v4) rfl rfl rfl c3)) (fun hg => (.cons hg (.cons hg .nil)))) ?_
    obtain ⟨y6, hy6, h⟩ := bind_some h
    refine RegJ.op (Op1.callg (g := !(((decide ((97 : Int) ≤ (((List.getD a0 v4 0).toNat : Nat) : Int))) && (decide ((((List.getD a0 v4 0).toNat : Nat) : Int) ≤ (122 : Int)))) || ((decide ((65 : Int) ≤ (((List.getD a0 v4 0).toNat : Nat) : Int))) && (decide ((((List.getD a0 v4 0).toNat : Nat) : Int) ≤ (90 : Int)))))) (y' := vb ((decide ((48 : Int) ≤ (((List.getD a0 v4 0).toNat : Nat) : Int))) && (decide ((((List.getD a0 v4 0).toNat : Nat) : Int) ≤ (57 : Int))))) (obx := []) _ _ (cy (IG 33 (.call 160 [(.t 32)]) 29 true)) rfl (fun hg => agraffebase_isDigit_ok n (((List.getD a0 v4 0).toNat : Nat) : Int) y6 (gcall_some hy6 hg)) [] (fun hg => by kernel_rfl) (fun hg => (.cons rfl (.cons hg .nil))) (by kernel_rfl) (by kernel_rfl) ObsRen.nil (by kernel_rfl) (by kernel_rfl)) ?_
    refine RegJ.op (Op1.valk (v := vb (!((decide ((48 : Int) ≤ (((List.getD a0 v4 0).toNat : Nat) : Int))) && (decide ((((List.getD a0 v4 0).toNat : Nat) : Int) ≤ (57 : Int)))))) _ _ (cy (IG 34 (.un .not (.t 33)) 29 true)) rfl (by kernel_rfl) (fun hg => (.cons hg .nil))) ?_
    refine RegJ.op (Op1.and (cy (I0 35 (.pick (.t 29) (.t 34) (.c (.p (.bool false)))))) rfl rfl (by first | exact hokA1 | exact hokA0 | simp)) ?_
    refine rn 1 [(0, vt a0), (3, vi v4), (30, .cond (!(((decide ((97 : Int) ≤ (((List.getD a0 v4 0).toNat : Nat) : Int))) && (decide ((((List.getD a0 v4 0).toNat : Nat) : Int) ≤ (122 : Int)))) || ((decide ((65 : Int) ≤ (((List.getD a0 v4 0).toNat : Nat) : Int))) && (decide ((((List.getD a0 v4 0).toNat : Nat) : Int) ≤ (90 : Int)))))) (vt a0)), (31, .cond (!(((decide ((97 : Int) ≤ (((List.getD a0 v4 0).toNat : Nat) : Int))) && (decide ((((List.getD a0 v4 0).toNat : Nat) : Int) ≤ (122 : Int)))) || ((decide ((65 : Int) ≤ (((List.getD a0 v4 0).toNat : Nat) : Int))) && (decide ((((List.getD a0 v4 0).toNat : Nat) : Int) ≤ (90 : Int)))))) (vi v4)), (32, .cond (!(((decide ((97 : Int) ≤ (((List.getD a0 v4 0).toNat : Nat) : Int))) && (decide ((((List.getD a0 v4 0).toNat : Nat) : Int) ≤ (122 : Int)))) || ((decide ((65 : Int) ≤ (((List.getD a0 v4 0).toNat : Nat) : Int))) && (decide ((((List.getD a0 v4 0).toNat : Nat) : Int) ≤ (90 : Int)))))) (vk .u8 (((List.getD a0 v4 0).toNat : Nat) : Int))), (33, .cond (!(((decide ((97 : Int) ≤ (((List.getD a0 v4 0).toNat : Nat) : Int))) && (decide ((((List.getD a0 v4 0).toNat : Nat) : Int) ≤ (122 : Int)))) || ((decide ((65 : Int) ≤ (((List.getD a0 v4 0).toNat : Nat) : Int))) && (decide ((((List.getD a0 v4 0).toNat : Nat) : Int) ≤ (90 : Int)))))) (vb ((decide ((48 : Int) ≤ (((List.getD a0 v4 0).toNat : Nat) : Int))) && (decide ((((List.getD a0 v4 0).toNat : Nat) : Int) ≤ (57 : Int)))))), (34, .cond (!(((decide ((97 : Int) ≤ (((List.getD a0 v4 0).toNat : Nat) : Int))) && (decide ((((List.getD a0 v4 0).toNat : Nat) : Int) ≤ (122 : Int)))) || ((decide ((65 : Int) ≤ (((List.getD a0 v4 0).toNat : Nat) : Int))) && (decide ((((List.getD a0 v4 0).toNat : Nat) : Int) ≤ (90 : Int)))))) (vb (!((decide ((48 : Int) ≤ (((List.getD a0 v4 0).toNat : Nat) : Int))) && (decide ((((List.getD a0 v4 0).toNat : Nat) : Int) ≤ (57 : Int))))))), (36, vb ((!(((decide ((97 : Int) ≤ (((List.getD a0 v4 0).toNat : Nat) : Int))) && (decide ((((List.getD a0 v4 0).toNat : Nat) : Int) ≤ (122 : Int)))) || ((decide ((65 : Int) ≤ (((List.getD a0 v4 0).toNat : Nat) : Int))) && (decide ((((List.getD a0 v4 0).toNat : Nat) : Int) ≤ (90 : Int)))))) && (!((decide ((48 : Int) ≤ (((List.getD a0 v4 0).toNat : Nat) : Int))) && (decide ((((List.getD a0 v4 0).toNat : Nat) : Int) ≤ (57 : Int)))))))] [] ?_
    refine RegJ.op (Op1.valk (v := vt a0) _ _ (cy (IG 37 (.mov (.t 0)) 36 true)) rfl (by kernel_rfl) (fun hg => (.cons rfl .nil))) ?_
    refine RegJ.op (Op1.valk (v := vi v4) _ _ (cy (IG 38 (.mov (.t 3)) 36 true)) rfl (by kernel_rfl) (fun hg => (.cons rfl .nil))) ?_
    refine RegJ.op (Op1.valg (v := vk .u8 (((List.getD a0 v4 0).toNat : Nat) : Int)) _ _ (cy (IG 39 (.sidx (.t 37) (.t 38)) 36 true)) rfl (fun hg => (ok_sidx_t (j := v4) rfl rfl rfl c3)) (fun hg => (.cons hg (.cons hg .nil)))) ?_
    refine RegJ.op (Op1.valk (v := vb ((((List.getD a0 v4 0).toNat : Nat) : Int) != (45 : Int))) _ _ (cy (IG 40 (.bin .neq false (.t 39) (.c (.p (.int .u8 45)))) 36 true)) rfl (by kernel_rfl) (fun hg => (.cons hg (.cons rfl .nil)))) ?_
    refine RegJ.op (Op1.and (cy (I0 41 (.pick (.t 36) (.t 40) (.c (.p (.bool false)))))) rfl rfl (by first | exact hokA1 | exact hokA0 | simp)) ?_
    refine jp [(0, vt a0), (3, vi v4), (41, vb (((!(((decide ((97 : Int) ≤ (((List.getD a0 v4 0).toNat : Nat) : Int))) && (decide ((((List.getD a0 v4 0).toNat : Nat) : Int) ≤ (122 : Int)))) || ((decide ((65 : Int) ≤ (((List.getD a0 v4 0).toNat : Nat) : Int))) && (decide ((((List.getD a0 v4 0).toNat : Nat) : Int) ≤ (90 : Int)))))) && (!((decide ((48 : Int) ≤ (((List.getD a0 v4 0).toNat : Nat) : Int))) && (decide ((((List.getD a0 v4 0).toNat : Nat) : Int) ≤ (57 : Int)))))) && ((((List.getD a0 v4 0).toNat : Nat) : Int) != (45 : Int))))] ?_
    refine TriE.cond (b := ((!(((decide ((97 : Int) ≤ (((List.getD a0 v4 0).toNat : Nat) : Int))) && (decide ((((List.getD a0 v4 0).toNat : Nat) : Int) ≤ (122 : Int)))) || ((decide ((65 : Int) ≤ (((List.getD a0 v4 0).toNat : Nat) : Int))) && (decide ((((List.getD a0 v4 0).toNat : Nat) : Int) ≤ (90 : Int)))))) && (!((decide ((48 : Int) ≤ (((List.getD a0 v4 0).toNat : Nat) : Int))) && (decide ((((List.getD a0 v4 0).toNat : Nat) : Int) ≤ (57 : Int)))))) && ((((List.getD a0 v4 0).toNat : Nat) : Int) != (45 : Int))) rfl (fun c4 => ?_) (fun c4 => ?_)
    · have h := cond_t h c4
      refine sr [(2, vb false)] [] ?_
      refine TriE.ret ?_
      have h := Option.some.inj h
      subst h
      exact DoneS.ret (S' := ⟨[(2, vb false)], []⟩) Sees.refl rfl rfl
    have h := cond_f h c4
    refine TriE.skip ?_
    refine TriE.regJ ?_
    refine rn 1 [(0, vt a0), (22, vi v4)] [] ?_
    obtain ⟨c5, h⟩ := chk_some h
    refine jv (vi ((v4 + 1 : Nat) : Int)) (cy (I0 23 (.bin .add false (.t 22) (.c (.p (.int .i64 1)))))) (r_addn (i := v4) (j := 1) rfl rfl c5) rfl ?_
    refine jq 1 [(0, vt a0), (3, vi ((v4 + 1 : Nat) : Int))] [] ?_
    exact Vs.intro sy ⟨(v4 + 1), rfl, h⟩
  have h := cond_f h c3
  refine TriE.exit ?_
  exact Vs.intro sy ⟨(), rfl, h⟩
theorem agrafferef08_FindStock_ok (n : Nat) (a0 : List Stocked) (a1 : Str) (r : Int) (h : agrafferef08_FindStock n a0 a1 = some r) : FnL Tryz.prog 74 [eS 3 eStocked a0, vt a1] [] (vi r) [] := by
  dsimp only [agrafferef08_FindStock] at h
  refine FnL.ofS (ts := [4]) Tryz.call74 Tryz.func74 rfl rfl (Nat.le_of_ble_eq_true rfl) (Nat.le_of_ble_eq_true rfl) (fun j h => absurd h (Nat.not_lt_zero j)) ?_
  refine sr [(0, eS 3 eStocked a0), (1, vt a1)] [] ?_
  refine TriE.seqK h (fun (_ : Unit) => St.mk [] []) ?_ ?_
  · rintro ⟨⟩ h
    refine sr [(4, vi (-1))] [] ?_
    refine TriE.ret ?_
    have h := Option.some.inj h
    subst h
    exact DoneS.ret (S' := ⟨[(4, vi (-1))], []⟩) Sees.refl rfl rfl
  intro k1 h
  refine sr [(0, eS 3 eStocked a0), (1, vt a1), (5, vi 0)] [] ?_
  refine TriE.block ?_
  refine TriE.sees (S' := ⟨[(0, eS 3 eStocked a0), (1, vt a1), (5, vi 0)], []⟩) sy ?_
  refine TriE.loopN h (fun (v1 : Nat) => St.mk [(0, eS 3 eStocked a0), (1, vt a1), (5, vi v1)] []) rfl ?_
  clear h
  rintro back v1 h
  dsimp only [agrafferef08_FindStock_L1] at h
  refine TriE.seq ?_
  refine sj ?_
  refine rn 2 [(0, eS 3 eStocked a0), (1, vt a1), (5, vi v1), (6, vi v1), (7, eS 3 eStocked a0)] [] ?_
  refine jv (vi (a0.length : Int)) (cy (I0 8 (.len 0 (.t 7)))) (ok_len_m rfl) rfl ?_
  refine jv (vb (decide (v1 < a0.length))) (cy (I0 9 (.bin .lss false (.t 6) (.t 8)))) (n_lss (i := v1) (j := a0.length) rfl rfl) rfl ?_
  refine jp [(0, eS 3 eStocked a0), (1, vt a1), (5, vi v1), (9, vb (decide (v1 < a0.length)))] ?_
  refine TriE.cond (b := decide (v1 < a0.length)) rfl (fun c1 => ?_) (fun c1 => ?_)
  · have h := cond_t h c1
    refine TriE.skip ?_
    refine TriE.seq ?_
    refine TriE.block ?_
    refine sj ?_
    refine rn 2 [(0, eS 3 eStocked a0), (1, vt a1), (5, vi v1), (12, eS 3 eStocked a0), (13, vi v1)] [] ?_
    refine jv (.fptr 3 (List.map eStocked a0) v1 0) (cy (I0 14 (.iaddr 3 (.t 12) (.t 13)))) (ok_iaddr_m (j := v1) rfl rfl rfl c1) rfl ?_
    refine rn 1 [(0, eS 3 eStocked a0), (1, vt a1), (5, vi v1), (15, .fptr 3 (List.map eStocked a0) v1 0)] [] ?_
    refine jv (vt ((ix a0 v1).Part)) (cy (I0 16 (.load false 1 (.t 15)))) (ok_load_fm (v := vt ((ix a0 v1).Part)) rfl c1 rfl) rfl ?_
    refine jq 2 [(0, eS 3 eStocked a0), (1, vt a1), (5, vi v1), (18, vb (((ix a0 v1).Part) == a1))] [] ?_
    refine TriE.cond (b := (((ix a0 v1).Part) == a1)) rfl (fun c2 => ?_) (fun c2 => ?_)
    · have h := cond_t h c2
      refine sr [(4, vi v1)] [] ?_
      refine TriE.ret ?_
      have h := Option.some.inj h
      subst h
      exact DoneS.ret (S' := ⟨[(4, vi v1)], []⟩) Sees.refl rfl rfl
    have h := cond_f h c2
    refine TriE.skip ?_
    refine TriE.regJ ?_
    refine rn 1 [(0, eS 3 eStocked a0), (1, vt a1), (10, vi v1)] [] ?_
    obtain ⟨c3, h⟩ := chk_some h
    refine jv (vi ((v1 + 1 : Nat) : Int)) (cy (I0 11 (.bin .add false (.t 10) (.c (.p (.int .i64 1)))))) (r_addn (i := v1) (j := 1) rfl rfl c3) rfl ?_
    refine jq 1 [(0, eS 3 eStocked a0), (1, vt a1), (5, vi ((v1 + 1 : Nat) : Int))] [] ?_
    exact Vs.intro sy ⟨(v1 + 1), rfl, h⟩
  have h := cond_f h c1
  refine TriE.exit ?_
  exact Vs.intro sy ⟨(), rfl, h⟩
theorem agraffebase_Within_ok (n : Nat) (a0 : Int) (a1 : Int) (a2 : Int) (r : Unit) (h : agraffebase_Within n a0 a1 a2 = some r) : FnL Tryz.prog 93 [vi a0, vi a1, vi a2] [] (vb ((decide (a1 ≤ a0)) && (decide (a0 ≤ a2)))) [] := by
  dsimp only [agraffebase_Within] at h
  refine FnL.ofS (ts := [6]) Tryz.call93 Tryz.func93 rfl rfl (Nat.le_of_ble_eq_true rfl) (Nat.le_of_ble_eq_true rfl) (fun j h => absurd h (Nat.not_lt_zero j)) ?_
  refine sr [(0, vi a0), (1, vi a1), (2, vi a2)] [] ?_
  refine sj ?_
  refine rn 4 [(0, vi a0), (2, vi a2), (10, vb (decide (a1 ≤ a0)))] [] ?_
  refine RegJ.op (Op1.valk (v := vi a0) _ _ (cy (IG 11 (.mov (.t 0)) 10 true)) rfl (by kernel_rfl) (fun hg => (.cons rfl .nil))) ?_
  refine RegJ.op (Op1.valk (v := vi a2) _ _ (cy (IG 12 (.mov (.t 2)) 10 true)) rfl (by kernel_rfl) (fun hg => (.cons rfl .nil))) ?_
  refine RegJ.op (Op1.valk (v := vb (decide (a0 ≤ a2))) _ _ (cy (IG 13 (.bin .leq false (.t 11) (.t 12)) 10 true)) rfl (by kernel_rfl) (fun hg => (.cons hg (.cons hg .nil)))) ?_
  refine RegJ.op (Op1.and (cy (I0 14 (.pick (.t 10) (.t 13) (.c (.p (.bool false)))))) rfl rfl (by first | exact hokA1 | exact hokA0 | simp)) ?_
  refine jq 1 [(6, vb ((decide (a1 ≤ a0)) && (decide (a0 ≤ a2))))] [] ?_
  refine TriE.ret ?_
  have h := Option.some.inj h
  subst h
  exact DoneS.ret (S' := ⟨[(6, vb ((decide (a1 ≤ a0)) && (decide (a0 ≤ a2))))], []⟩) Sees.refl rfl rfl
theorem agrafferef08_CheckStock_ok (n : Nat) (a0 : List Stocked) (r : Int) (h : agrafferef08_CheckStock n a0 = some r) : FnL Tryz.prog 24 [eS 3 eStocked a0] [] (vi r) [] := by
  dsimp only [agrafferef08_CheckStock] at h
  refine FnL.ofS (ts := [2]) Tryz.call24 Tryz.func24 rfl rfl (Nat.le_of_ble_eq_true rfl) (Nat.le_of_ble_eq_true rfl) (fun j h => absurd h (Nat.not_lt_zero j)) ?_
  refine sr [(0, eS 3 eStocked a0)] [] ?_
  refine TriE.seq ?_
  refine sj ?_
  refine rn 1 [(0, eS 3 eStocked a0), (4, eS 3 eStocked a0)] [] ?_
  refine jv (vi (a0.length : Int)) (cy (I0 5 (.len 0 (.t 4)))) (ok_len_m rfl) rfl ?_
  refine jv (vb (decide (60 < a0.length))) (cy (I0 6 (.bin .gtr false (.t 5) (.c (.p (.int .i64 60)))))) (n_gtr (i := a0.length) (j := 60) rfl rfl) rfl ?_
  refine jp [(0, eS 3 eStocked a0), (6, vb (decide (60 < a0.length)))] ?_
  refine TriE.cond (b := decide (60 < a0.length)) rfl (fun c1 => ?_) (fun c1 => ?_)
  · have h := cond_t h c1
    refine sr [(2, vi 8)] [] ?_
    refine TriE.ret ?_
    have h := Option.some.inj h
    subst h
    exact DoneS.ret (S' := ⟨[(2, vi 8)], []⟩) Sees.refl rfl rfl
  have h := cond_f h c1
  refine TriE.skip ?_
  refine TriE.seqK h (fun (_ : Unit) => St.mk [] []) ?_ ?_
  · rintro ⟨⟩ h
    refine sr [(2, vi 0)] [] ?_
    refine TriE.ret ?_
    have h := Option.some.inj h
    subst h
    exact DoneS.ret (S' := ⟨[(2, vi 0)], []⟩) Sees.refl rfl rfl
  intro k1 h
  refine sr [(0, eS 3 eStocked a0), (3, vi 0)] [] ?_
  refine TriE.block ?_
  refine TriE.sees (S' := ⟨[(0, eS 3 eStocked a0), (3, vi 0)], []⟩) sy ?_
  refine TriE.loopN h (fun (v5 : Nat) => St.mk [(0, eS 3 eStocked a0), (3, vi v5)] []) rfl ?_
  clear h
  rintro back v5 h
  dsimp only [agrafferef08_CheckStock_L1] at h
  refine TriE.seq ?_
  refine sj ?_
  refine rn 2 [(0, eS 3 eStocked a0), (3, vi v5), (7, vi v5), (8, eS 3 eStocked a0)] [] ?_
  refine jv (vi (a0.length : Int)) (cy (I0 9 (.len 0 (.t 8)))) (ok_len_m rfl) rfl ?_
  refine jv (vb (decide (v5 < a0.length))) (cy (I0 10 (.bin .lss false (.t 7) (.t 9)))) (n_lss (i := v5) (j := a0.length) rfl rfl) rfl ?_
  refine jp [(0, eS 3 eStocked a0), (3, vi v5), (10, vb (decide (v5 < a0.length)))] ?_
  refine TriE.cond (b := decide (v5 < a0.length)) rfl (fun c2 => ?_) (fun c2 => ?_)
  · have h := cond_t h c2
    refine TriE.skip ?_
    refine TriE.seq ?_
    refine TriE.block ?_
    refine TriE.seq ?_
    refine sj ?_
    refine rn 2 [(0, eS 3 eStocked a0), (3, vi v5), (13, eS 3 eStocked a0), (14, vi v5)] [] ?_
    refine jv (.fptr 3 (List.map eStocked a0) v5 0) (cy (I0 15 (.iaddr 3 (.t 13) (.t 14)))) (ok_iaddr_m (j := v5) rfl rfl rfl c2) rfl ?_
    refine rn 1 [(0, eS 3 eStocked a0), (3, vi v5), (16, .fptr 3 (List.map eStocked a0) v5 0)] [] ?_
    refine jv (vt ((ix a0 v5).Part)) (cy (I0 17 (.load false 1 (.t 16)))) (ok_load_fm (v := vt ((ix a0 v5).Part)) rfl c2 rfl) rfl ?_
    obtain ⟨y6, hy6, h⟩ := bind_some h
    refine RegJ.op (Op1.call (y' := vb y6) (obx := []) (oby := []) (ob2 := []) _ _ (cy (I0 18 (.call 92 [(.t 17)]))) rfl (agraffebase_IsName_ok n ((ix a0 v5).Part) y6 hy6) [] (by kernel_rfl) (.cons rfl (.cons rfl .nil)) (by kernel_rfl) (by kernel_rfl) ObsRen.nil (by kernel_rfl) ObsRen.nil (by kernel_rfl)) ?_
    refine jq 1 [(0, eS 3 eStocked a0), (3, vi v5), (19, vb (!y6))] [] ?_
    refine TriE.cond (b := !y6) rfl (fun c3 => ?_) (fun c3 => ?_)
    · have h := cond_t h c3
      refine sr [(2, vi 4)] [] ?_
      refine TriE.ret ?_
      have h := Option.some.inj h
      subst h
      exact DoneS.ret (S' := ⟨[(2, vi 4)], []⟩) Sees.refl rfl rfl
    have h := cond_f h c3
    refine TriE.skip ?_
    refine TriE.seq ?_
    refine TriE.seq ?_
    refine TriE.sees (Sees.less (fr' := [(0, eS 3 eStocked a0), (3, vi v5)]) (.cons rfl (.cons rfl .nil))) ?_
    refine TriE.draw (by kernel_rfl) ?_
    refine RegD.run 2 [(21, vi v5), (20, eS 3 eStocked a0), (0, eS 3 eStocked a0), (3, vi v5)] [none, none] (by kernel_rfl) ?_
    obtain ⟨c4, h⟩ := chk_some h
    refine dv (eS 3 eStocked (List.take v5 a0)) (cy (I0 22 (.slc 3 (.t 20) none (some (.t 21)) none))) (ok_slc_hi (j := v5) rfl rfl rfl c4) rfl ?_
    refine RegD.run 2 [(24, vi v5), (23, eS 3 eStocked a0), (22, eS 3 eStocked (List.take v5 a0)), (21, vi v5), (20, eS 3 eStocked a0), (0, eS 3 eStocked a0), (3, vi v5)] [none, none, none, none, none] (by kernel_rfl) ?_
    refine dv (.fptr 3 (List.map eStocked a0) v5 0) (cy (I0 25 (.iaddr 3 (.t 23) (.t 24)))) (ok_iaddr_m (j := v5) rfl rfl rfl c2) rfl ?_
    refine RegD.run 1 [(26, .fptr 3 (List.map eStocked a0) v5 0), (25, .fptr 3 (List.map eStocked a0) v5 0), (24, vi v5), (23, eS 3 eStocked a0), (22, eS 3 eStocked (List.take v5 a0)), (21, vi v5), (20, eS 3 eStocked a0), (0, eS 3 eStocked a0), (3, vi v5)] [none, none, none, none, none, none, none] (by kernel_rfl) ?_
    refine dv (vt ((ix a0 v5).Part)) (cy (I0 27 (.load false 1 (.t 26)))) (ok_load_fm (v := vt ((ix a0 v5).Part)) rfl c2 rfl) rfl ?_
    obtain ⟨y7, hy7, h⟩ := bind_some h
    refine RegD.op (OpD.call (y' := vi y7) (obx := []) (oby := []) (ob2 := [none, none, none, none, none, none, none, none, none]) (tch := []) 0 _ _ (cy (I0 28 (.call 74 [(.t 22), (.t 27)]))) (agrafferef08_FindStock_ok n (List.take v5 a0) ((ix a0 v5).Part) y7 hy7) [] (by kernel_rfl) (.cons rfl (.cons rfl (.cons rfl .nil))) (by kernel_rfl) (by kernel_rfl) ObsRen.nil (by kernel_rfl) ObsRen.nil (by kernel_rfl) rfl (.inr ⟨rfl, rfl⟩)) ?_
    refine RegD.run 1 [(29, vb (decide ((0 : Int) ≤ y7))), (28, vi y7), (27, vt ((ix a0 v5).Part)), (26, .fptr 3 (List.map eStocked a0) v5 0), (25, .fptr 3 (List.map eStocked a0) v5 0), (24, vi v5), (23, eS 3 eStocked a0), (22, eS 3 eStocked (List.take v5 a0)), (21, vi v5), (20, eS 3 eStocked a0), (0, eS 3 eStocked a0), (3, vi v5)] [none, none, none, none, none, none, none, none, none, none] (by kernel_rfl) ?_
    refine RegD.done rfl (by kernel_rfl) (S' := ⟨[(0, eS 3 eStocked a0), (3, vi v5), (29, vb (decide ((0 : Int) ≤ y7)))], []⟩) (sc [] (by decide) (by kernel_rfl) ObRen.nil rfl rfl) ?_
    refine TriE.cond (b := decide ((0 : Int) ≤ y7)) rfl (fun c5 => ?_) (fun c5 => ?_)
    · have h := cond_t h c5
      refine sr [(2, vi 5)] [] ?_
      refine TriE.ret ?_
      have h := Option.some.inj h
      subst h
      exact DoneS.ret (S' := ⟨[(2, vi 5)], []⟩) Sees.refl rfl rfl
    have h := cond_f h c5
    refine TriE.skip ?_
    refine sj ?_
    refine rn 2 [(0, eS 3 eStocked a0), (3, vi v5), (30, eS 3 eStocked a0), (31, vi v5)] [] ?_
    refine jv (.fptr 3 (List.map eStocked a0) v5 0) (cy (I0 32 (.iaddr 3 (.t 30) (.t 31)))) (ok_iaddr_m (j := v5) rfl rfl rfl c2) rfl ?_
    refine rn 1 [(0, eS 3 eStocked a0), (3, vi v5), (33, .fptr 3 (List.map eStocked a0) v5 1)] [] ?_
    refine jv (vi ((ix a0 v5).Cents)) (cy (I0 34 (.load false 1 (.t 33)))) (ok_load_fm (v := vi ((ix a0 v5).Cents)) rfl c2 rfl) rfl ?_
    obtain ⟨y8, hy8, h⟩ := bind_some h
    refine RegJ.op (Op1.call (y' := vb ((decide (0 ≤ ((ix a0 v5).Cents))) && (decide (((ix a0 v5).Cents) ≤ 1000000000)))) (obx := []) (oby := []) (ob2 := []) _ _ (cy (I0 35 (.call 93 [(.t 34), (.c (.p (.int .i64 0))), (.c (.p (.int .i64 1000000000)))]))) rfl (agraffebase_Within_ok n ((ix a0 v5).Cents) 0 1000000000 y8 hy8) [] (by kernel_rfl) (.cons rfl (.cons rfl (.cons rfl (.cons rfl .nil)))) (by kernel_rfl) (by kernel_rfl) ObsRen.nil (by kernel_rfl) ObsRen.nil (by kernel_rfl)) ?_
    refine rn 2 [(0, eS 3 eStocked a0), (3, vi v5), (37, vb (!((decide (0 ≤ ((ix a0 v5).Cents))) && (decide (((ix a0 v5).Cents) ≤ 1000000000)))))] [] ?_
    refine RegJ.op (Op1.valk (v := eS 3 eStocked a0) _ _ (cy (IG 38 (.mov (.t 0)) 37 false)) rfl (by kernel_rfl) (fun hg => (.cons rfl .nil))) ?_
    refine RegJ.op (Op1.valk (v := vi v5) _ _ (cy (IG 39 (.mov (.t 3)) 37 false)) rfl (by kernel_rfl) (fun hg => (.cons rfl .nil))) ?_
    refine RegJ.op (Op1.valg (v := .fptr 3 (List.map eStocked a0) v5 0) _ _ (cy (IG 40 (.iaddr 3 (.t 38) (.t 39)) 37 false)) rfl (fun hg => (ok_iaddr_m (j := v5) rfl rfl rfl c2)) (fun hg => (.cons hg (.cons hg .nil)))) ?_
    refine RegJ.op (Op1.valk (v := .fptr 3 (List.map eStocked a0) v5 2) _ _ (cy (IG 41 (.faddr 2 (.t 40)) 37 false)) rfl (by kernel_rfl) (fun hg => (.cons hg .nil))) ?_
    refine RegJ.op (Op1.valg (v := vi ((ix a0 v5).Count)) _ _ (cy (IG 42 (.load false 1 (.t 41)) 37 false)) rfl (fun hg => (ok_load_fm (v := vi ((ix a0 v5).Count)) rfl c2 rfl)) (fun hg => (.cons hg .nil))) ?_
    obtain ⟨y9, hy9, h⟩ := bind_some h
    refine RegJ.op (Op1.callg (g := !(!((decide (0 ≤ ((ix a0 v5).Cents))) && (decide (((ix a0 v5).Cents) ≤ 1000000000))))) (y' := vb ((decide (0 ≤ ((ix a0 v5).Count))) && (decide (((ix a0 v5).Count) ≤ 10000)))) (obx := []) _ _ (cy (IG 43 (.call 93 [(.t 42), (.c (.p (.int .i64 0))), (.c (.p (.int .i64 10000)))]) 37 false)) rfl (fun hg => agraffebase_Within_ok n ((ix a0 v5).Count) 0 10000 y9 (gcall_some hy9 hg)) [] (fun hg => by kernel_rfl) (fun hg => (.cons rfl (.cons hg (.cons rfl (.cons rfl .nil))))) (by kernel_rfl) (by kernel_rfl) ObsRen.nil (by kernel_rfl) (by kernel_rfl)) ?_
    refine RegJ.op (Op1.valk (v := vb (!((decide (0 ≤ ((ix a0 v5).Count))) && (decide (((ix a0 v5).Count) ≤ 10000))))) _ _ (cy (IG 44 (.un .not (.t 43)) 37 false)) rfl (by kernel_rfl) (fun hg => (.cons hg .nil))) ?_
    refine RegJ.op (Op1.or (cy (I0 45 (.pick (.t 37) (.c (.p (.bool true))) (.t 44)))) rfl rfl (by first | exact hokO1 | exact hokO0 | simp)) ?_
    refine jp [(0, eS 3 eStocked a0), (3, vi v5), (45, vb ((!((decide (0 ≤ ((ix a0 v5).Cents))) && (decide (((ix a0 v5).Cents) ≤ 1000000000)))) || (!((decide (0 ≤ ((ix a0 v5).Count))) && (decide (((ix a0 v5).Count) ≤ 10000))))))] ?_
    refine TriE.cond (b := (!((decide (0 ≤ ((ix a0 v5).Cents))) && (decide (((ix a0 v5).Cents) ≤ 1000000000)))) || (!((decide (0 ≤ ((ix a0 v5).Count))) && (decide (((ix a0 v5).Count) ≤ 10000))))) rfl (fun c6 => ?_) (fun c6 => ?_)
    · have h := cond_t h c6
      refine sr [(2, vi 2)] [] ?_
      refine TriE.ret ?_
      have h := Option.some.inj h
      subst h
      exact DoneS.ret (S' := ⟨[(2, vi 2)], []⟩) Sees.refl rfl rfl
    have h := cond_f h c6
    refine TriE.skip ?_
    refine TriE.regJ ?_
    refine rn 1 [(0, eS 3 eStocked a0), (11, vi v5)] [] ?_
    obtain ⟨c7, h⟩ := chk_some h
    refine jv (vi ((v5 + 1 : Nat) : Int)) (cy (I0 12 (.bin .add false (.t 11) (.c (.p (.int .i64 1)))))) (r_addn (i := v5) (j := 1) rfl rfl c7) rfl ?_
    refine jq 1 [(0, eS 3 eStocked a0), (3, vi ((v5 + 1 : Nat) : Int))] [] ?_
    exact Vs.intro sy ⟨(v5 + 1), rfl, h⟩
  have h := cond_f h c2
  refine TriE.exit ?_
  exact Vs.intro sy ⟨(), rfl, h⟩
theorem agrafferef08_promised_ok (n : Nat) (a0 : List PartPromise) (a1 : Str) (r : Int) (h : agrafferef08_promised n a0 a1 = some r) : FnL Tryz.prog 109 [eS 3 ePartPromise a0, vt a1] [] (vi r) [] := by
  dsimp only [agrafferef08_promised] at h
  refine FnL.ofS (ts := [4]) Tryz.call109 Tryz.func109 rfl rfl (Nat.le_of_ble_eq_true rfl) (Nat.le_of_ble_eq_true rfl) (fun j h => absurd h (Nat.not_lt_zero j)) ?_
  refine sr [(0, eS 3 ePartPromise a0), (1, vt a1)] [] ?_
  refine sr [(0, eS 3 ePartPromise a0), (1, vt a1), (5, vi 0)] [] ?_
  refine TriE.seqK h (fun (v5 : Int) => St.mk [(5, vi v5)] []) ?_ ?_
  · rintro v5 h
    refine sr [(4, vi v5)] [] ?_
    refine TriE.ret ?_
    have h := Option.some.inj h
    subst h
    exact DoneS.ret (S' := ⟨[(4, vi v5)], []⟩) Sees.refl rfl rfl
  intro k2 h
  refine sr [(0, eS 3 ePartPromise a0), (1, vt a1), (5, vi 0), (6, vi 0)] [] ?_
  refine TriE.block ?_
  refine TriE.sees (S' := ⟨[(0, eS 3 ePartPromise a0), (1, vt a1), (5, vi 0), (6, vi 0)], []⟩) sy ?_
  refine TriE.loopN h (fun (t : Int × Nat) => match t with | (v2, v3) => St.mk [(0, eS 3 ePartPromise a0), (1, vt a1), (5, vi v2), (6, vi v3)] []) rfl ?_
  clear h
  rintro back ⟨v2, v3⟩ h
  dsimp only [agrafferef08_promised_L1] at h
  refine TriE.seq ?_
  refine sj ?_
  refine rn 2 [(0, eS 3 ePartPromise a0), (1, vt a1), (5, vi v2), (6, vi v3), (7, vi v3), (8, eS 3 ePartPromise a0)] [] ?_
  refine jv (vi (a0.length : Int)) (cy (I0 9 (.len 0 (.t 8)))) (ok_len_m rfl) rfl ?_
  refine jv (vb (decide (v3 < a0.length))) (cy (I0 10 (.bin .lss false (.t 7) (.t 9)))) (n_lss (i := v3) (j := a0.length) rfl rfl) rfl ?_
  refine jp [(0, eS 3 ePartPromise a0), (1, vt a1), (5, vi v2), (6, vi v3), (10, vb (decide (v3 < a0.length)))] ?_
  refine TriE.cond (b := decide (v3 < a0.length)) rfl (fun c1 => ?_) (fun c1 => ?_)
  · have h := cond_t h c1
    refine TriE.skip ?_
    refine TriE.seqK h (fun (v4 : Int) => St.mk [(0, eS 3 ePartPromise a0), (1, vt a1), (6, vi v3), (5, vi v4)] []) ?_ ?_
    · rintro v4 h
      refine TriE.regJ ?_
      refine rn 1 [(0, eS 3 ePartPromise a0), (1, vt a1), (5, vi v4), (11, vi v3)] [] ?_
      obtain ⟨c4, h⟩ := chk_some h
      refine jv (vi ((v3 + 1 : Nat) : Int)) (cy (I0 12 (.bin .add false (.t 11) (.c (.p (.int .i64 1)))))) (r_addn (i := v3) (j := 1) rfl rfl c4) rfl ?_
      refine jq 1 [(0, eS 3 ePartPromise a0), (1, vt a1), (5, vi v4), (6, vi ((v3 + 1 : Nat) : Int))] [] ?_
      exact Vs.intro sy ⟨(v4, v3 + 1), rfl, h⟩
    intro k1 h
    refine TriE.block ?_
    refine sj ?_
    refine rn 2 [(0, eS 3 ePartPromise a0), (1, vt a1), (5, vi v2), (6, vi v3), (13, eS 3 ePartPromise a0), (14, vi v3)] [] ?_
    refine jv (.fptr 3 (List.map ePartPromise a0) v3 0) (cy (I0 15 (.iaddr 3 (.t 13) (.t 14)))) (ok_iaddr_m (j := v3) rfl rfl rfl c1) rfl ?_
    refine rn 1 [(0, eS 3 ePartPromise a0), (1, vt a1), (5, vi v2), (6, vi v3), (16, .fptr 3 (List.map ePartPromise a0) v3 1)] [] ?_
    refine jv (vt ((ix a0 v3).Part)) (cy (I0 17 (.load false 1 (.t 16)))) (ok_load_fm (v := vt ((ix a0 v3).Part)) rfl c1 rfl) rfl ?_
    refine jq 2 [(0, eS 3 ePartPromise a0), (1, vt a1), (5, vi v2), (6, vi v3), (19, vb (((ix a0 v3).Part) == a1))] [] ?_
    refine TriE.cond (b := (((ix a0 v3).Part) == a1)) rfl (fun c2 => ?_) (fun c2 => ?_)
    · have h := cond_t h c2
      refine TriE.regJ ?_
      refine rn 3 [(0, eS 3 ePartPromise a0), (1, vt a1), (6, vi v3), (20, vi v2), (21, eS 3 ePartPromise a0), (22, vi v3)] [] ?_
      refine jv (.fptr 3 (List.map ePartPromise a0) v3 0) (cy (I0 23 (.iaddr 3 (.t 21) (.t 22)))) (ok_iaddr_m (j := v3) rfl rfl rfl c1) rfl ?_
      refine rn 1 [(0, eS 3 ePartPromise a0), (1, vt a1), (6, vi v3), (20, vi v2), (24, .fptr 3 (List.map ePartPromise a0) v3 2)] [] ?_
      refine jv (vi ((ix a0 v3).Count)) (cy (I0 25 (.load false 1 (.t 24)))) (ok_load_fm (v := vi ((ix a0 v3).Count)) rfl c1 rfl) rfl ?_
      obtain ⟨c3, h⟩ := chk_some h
      refine jv (vi (v2 + ((ix a0 v3).Count))) (cy (I0 26 (.bin .add false (.t 20) (.t 25)))) (r_add rfl rfl c3) rfl ?_
      refine jq 1 [(0, eS 3 ePartPromise a0), (1, vt a1), (6, vi v3), (5, vi (v2 + ((ix a0 v3).Count)))] [] ?_
      exact Vs.intro Sees.refl ⟨(v2 + ((ix a0 v3).Count)), rfl, h⟩
    have h := cond_f h c2
    refine TriE.skip ?_
    exact Vs.intro sy ⟨v2, rfl, h⟩
  have h := cond_f h c1
  refine TriE.exit ?_
  exact Vs.intro sy ⟨v2, rfl, h⟩
theorem agrafferef08_CheckPromises_ok (n : Nat) (a0 : List Stocked) (a1 : List PartPromise) (r : Int) (h : agrafferef08_CheckPromises n a0 a1 = some r) : FnL Tryz.prog 43 [eS 3 eStocked a0, eS 3 ePartPromise a1] [] (vi r) [] := by
  dsimp only [agrafferef08_CheckPromises] at h
  refine FnL.ofS (ts := [4]) Tryz.call43 Tryz.func43 rfl rfl (Nat.le_of_ble_eq_true rfl) (Nat.le_of_ble_eq_true rfl) (fun j h => absurd h (Nat.not_lt_zero j)) ?_
  refine sr [(0, eS 3 eStocked a0), (1, eS 3 ePartPromise a1)] [] ?_
  refine TriE.seq ?_
  refine sj ?_
  refine rn 1 [(0, eS 3 eStocked a0), (1, eS 3 ePartPromise a1), (8, eS 3 eStocked a0)] [] ?_
  obtain ⟨y1, hy1, h⟩ := bind_some h
  refine RegJ.op (Op1.call (y' := vi y1) (obx := []) (oby := []) (ob2 := []) _ _ (cy (I0 9 (.call 24 [(.t 8)]))) rfl (agrafferef08_CheckStock_ok n a0 y1 hy1) [] (by kernel_rfl) (.cons rfl (.cons rfl .nil)) (by kernel_rfl) (by kernel_rfl) ObsRen.nil (by kernel_rfl) ObsRen.nil (by kernel_rfl)) ?_
  refine jq 1 [(0, eS 3 eStocked a0), (1, eS 3 ePartPromise a1), (5, vi y1)] [] ?_
  refine sr [(0, eS 3 eStocked a0), (1, eS 3 ePartPromise a1), (5, vi y1), (11, vb (y1 != (0 : Int)))] [] ?_
  refine TriE.cond (b := (y1 != (0 : Int))) rfl (fun c1 => ?_) (fun c1 => ?_)
  · have h := cond_t h c1
    refine sr [(4, vi y1)] [] ?_
    refine TriE.ret ?_
    have h := Option.some.inj h
    subst h
    exact DoneS.ret (S' := ⟨[(4, vi y1)], []⟩) Sees.refl rfl rfl
  have h := cond_f h c1
  refine TriE.skip ?_
  refine TriE.seq ?_
  refine sj ?_
  refine rn 1 [(0, eS 3 eStocked a0), (1, eS 3 ePartPromise a1), (13, eS 3 ePartPromise a1)] [] ?_
  refine jv (vi (a1.length : Int)) (cy (I0 14 (.len 0 (.t 13)))) (ok_len_m rfl) rfl ?_
  refine jv (vb (decide (200 < a1.length))) (cy (I0 15 (.bin .gtr false (.t 14) (.c (.p (.int .i64 200)))))) (n_gtr (i := a1.length) (j := 200) rfl rfl) rfl ?_
  refine jp [(0, eS 3 eStocked a0), (1, eS 3 ePartPromise a1), (15, vb (decide (200 < a1.length)))] ?_
  refine TriE.cond (b := decide (200 < a1.length)) rfl (fun c2 => ?_) (fun c2 => ?_)
  · have h := cond_t h c2
    refine sr [(4, vi 8)] [] ?_
    refine TriE.ret ?_
    have h := Option.some.inj h
    subst h
    exact DoneS.ret (S' := ⟨[(4, vi 8)], []⟩) Sees.refl rfl rfl
  have h := cond_f h c2
  refine TriE.skip ?_
  refine TriE.seqK h (fun (_ : Unit) => St.mk [] []) ?_ ?_
  · rintro ⟨⟩ h
    refine sr [(4, vi 0)] [] ?_
    refine TriE.ret ?_
    have h := Option.some.inj h
    subst h
    exact DoneS.ret (S' := ⟨[(4, vi 0)], []⟩) Sees.refl rfl rfl
  intro k1 h
  refine sr [(0, eS 3 eStocked a0), (1, eS 3 ePartPromise a1), (6, vi 0)] [] ?_
  refine TriE.block ?_
  refine TriE.sees (S' := ⟨[(0, eS 3 eStocked a0), (1, eS 3 ePartPromise a1), (6, vi 0)], []⟩) sy ?_
  refine TriE.loopN h (fun (v6 : Nat) => St.mk [(0, eS 3 eStocked a0), (1, eS 3 ePartPromise a1), (6, vi v6)] []) rfl ?_
  clear h
  rintro back v6 h
  dsimp only [agrafferef08_CheckPromises_L1] at h
  refine TriE.seq ?_
  refine sj ?_
  refine rn 2 [(0, eS 3 eStocked a0), (1, eS 3 ePartPromise a1), (6, vi v6), (16, vi v6), (17, eS 3 ePartPromise a1)] [] ?_
  refine jv (vi (a1.length : Int)) (cy (I0 18 (.len 0 (.t 17)))) (ok_len_m rfl) rfl ?_
  refine jv (vb (decide (v6 < a1.length))) (cy (I0 19 (.bin .lss false (.t 16) (.t 18)))) (n_lss (i := v6) (j := a1.length) rfl rfl) rfl ?_
  refine jp [(0, eS 3 eStocked a0), (1, eS 3 ePartPromise a1), (6, vi v6), (19, vb (decide (v6 < a1.length)))] ?_
  refine TriE.cond (b := decide (v6 < a1.length)) rfl (fun c3 => ?_) (fun c3 => ?_)
  · have h := cond_t h c3
    refine TriE.skip ?_
    refine TriE.seq ?_
    refine TriE.block ?_
    refine TriE.seq ?_
    refine sj ?_
    refine rn 2 [(0, eS 3 eStocked a0), (1, eS 3 ePartPromise a1), (6, vi v6), (22, eS 3 ePartPromise a1), (23, vi v6)] [] ?_
    refine jv (.fptr 3 (List.map ePartPromise a1) v6 0) (cy (I0 24 (.iaddr 3 (.t 22) (.t 23)))) (ok_iaddr_m (j := v6) rfl rfl rfl c3) rfl ?_
    refine rn 1 [(0, eS 3 eStocked a0), (1, eS 3 ePartPromise a1), (6, vi v6), (25, .fptr 3 (List.map ePartPromise a1) v6 0)] [] ?_
    refine jv (vt ((ix a1 v6).Instrument)) (cy (I0 26 (.load false 1 (.t 25)))) (ok_load_fm (v := vt ((ix a1 v6).Instrument)) rfl c3 rfl) rfl ?_
    obtain ⟨y7, hy7, h⟩ := bind_some h
    refine RegJ.op (Op1.call (y' := vb y7) (obx := []) (oby := []) (ob2 := []) _ _ (cy (I0 27 (.call 92 [(.t 26)]))) rfl (agraffebase_IsName_ok n ((ix a1 v6).Instrument) y7 hy7) [] (by kernel_rfl) (.cons rfl (.cons rfl .nil)) (by kernel_rfl) (by kernel_rfl) ObsRen.nil (by kernel_rfl) ObsRen.nil (by kernel_rfl)) ?_
    refine jq 1 [(0, eS 3 eStocked a0), (1, eS 3 ePartPromise a1), (6, vi v6), (28, vb (!y7))] [] ?_
    refine TriE.cond (b := !y7) rfl (fun c4 => ?_) (fun c4 => ?_)
    · have h := cond_t h c4
      refine sr [(4, vi 4)] [] ?_
      refine TriE.ret ?_
      have h := Option.some.inj h
      subst h
      exact DoneS.ret (S' := ⟨[(4, vi 4)], []⟩) Sees.refl rfl rfl
    have h := cond_f h c4
    refine TriE.skip ?_
    refine sj ?_
    refine rn 3 [(0, eS 3 eStocked a0), (1, eS 3 ePartPromise a1), (6, vi v6), (29, eS 3 eStocked a0), (30, eS 3 ePartPromise a1), (31, vi v6)] [] ?_
    refine jv (.fptr 3 (List.map ePartPromise a1) v6 0) (cy (I0 32 (.iaddr 3 (.t 30) (.t 31)))) (ok_iaddr_m (j := v6) rfl rfl rfl c3) rfl ?_
    refine rn 1 [(0, eS 3 eStocked a0), (1, eS 3 ePartPromise a1), (6, vi v6), (29, eS 3 eStocked a0), (33, .fptr 3 (List.map ePartPromise a1) v6 1)] [] ?_
    refine jv (vt ((ix a1 v6).Part)) (cy (I0 34 (.load false 1 (.t 33)))) (ok_load_fm (v := vt ((ix a1 v6).Part)) rfl c3 rfl) rfl ?_
    obtain ⟨y8, hy8, h⟩ := bind_some h
    refine RegJ.op (Op1.call (y' := vi y8) (obx := []) (oby := []) (ob2 := []) _ _ (cy (I0 35 (.call 74 [(.t 29), (.t 34)]))) rfl (agrafferef08_FindStock_ok n a0 ((ix a1 v6).Part) y8 hy8) [] (by kernel_rfl) (.cons rfl (.cons rfl (.cons rfl .nil))) (by kernel_rfl) (by kernel_rfl) ObsRen.nil (by kernel_rfl) ObsRen.nil (by kernel_rfl)) ?_
    refine jq 1 [(0, eS 3 eStocked a0), (1, eS 3 ePartPromise a1), (6, vi v6), (7, vi y8)] [] ?_
    refine TriE.seq ?_
    refine sr [(0, eS 3 eStocked a0), (1, eS 3 ePartPromise a1), (6, vi v6), (7, vi y8), (37, vb (decide (y8 < (0 : Int))))] [] ?_
    refine TriE.cond (b := decide (y8 < (0 : Int))) rfl (fun c5 => ?_) (fun c5 => ?_)
    · have h := cond_t h c5
      refine sr [(4, vi 6)] [] ?_
      refine TriE.ret ?_
      have h := Option.some.inj h
      subst h
      exact DoneS.ret (S' := ⟨[(4, vi 6)], []⟩) Sees.refl rfl rfl
    have h := cond_f h c5
    refine TriE.skip ?_
    refine TriE.seq ?_
    refine sj ?_
    refine rn 2 [(0, eS 3 eStocked a0), (1, eS 3 ePartPromise a1), (6, vi v6), (7, vi y8), (38, eS 3 ePartPromise a1), (39, vi v6)] [] ?_
    refine jv (.fptr 3 (List.map ePartPromise a1) v6 0) (cy (I0 40 (.iaddr 3 (.t 38) (.t 39)))) (ok_iaddr_m (j := v6) rfl rfl rfl c3) rfl ?_
    refine rn 1 [(0, eS 3 eStocked a0), (1, eS 3 ePartPromise a1), (6, vi v6), (7, vi y8), (41, .fptr 3 (List.map ePartPromise a1) v6 2)] [] ?_
    refine jv (vi ((ix a1 v6).Count)) (cy (I0 42 (.load false 1 (.t 41)))) (ok_load_fm (v := vi ((ix a1 v6).Count)) rfl c3 rfl) rfl ?_
    obtain ⟨y9, hy9, h⟩ := bind_some h
    refine RegJ.op (Op1.call (y' := vb ((decide (1 ≤ ((ix a1 v6).Count))) && (decide (((ix a1 v6).Count) ≤ 10000)))) (obx := []) (oby := []) (ob2 := []) _ _ (cy (I0 43 (.call 93 [(.t 42), (.c (.p (.int .i64 1))), (.c (.p (.int .i64 10000)))]))) rfl (agraffebase_Within_ok n ((ix a1 v6).Count) 1 10000 y9 hy9) [] (by kernel_rfl) (.cons rfl (.cons rfl (.cons rfl (.cons rfl .nil)))) (by kernel_rfl) (by kernel_rfl) ObsRen.nil (by kernel_rfl) ObsRen.nil (by kernel_rfl)) ?_
    refine jq 1 [(0, eS 3 eStocked a0), (1, eS 3 ePartPromise a1), (6, vi v6), (7, vi y8), (44, vb (!((decide (1 ≤ ((ix a1 v6).Count))) && (decide (((ix a1 v6).Count) ≤ 10000)))))] [] ?_
    refine TriE.cond (b := !((decide (1 ≤ ((ix a1 v6).Count))) && (decide (((ix a1 v6).Count) ≤ 10000)))) rfl (fun c6 => ?_) (fun c6 => ?_)
    · have h := cond_t h c6
      refine sr [(4, vi 2)] [] ?_
      refine TriE.ret ?_
      have h := Option.some.inj h
      subst h
      exact DoneS.ret (S' := ⟨[(4, vi 2)], []⟩) Sees.refl rfl rfl
    have h := cond_f h c6
    refine TriE.skip ?_
    refine TriE.seq ?_
    refine TriE.sees (Sees.less (fr' := [(0, eS 3 eStocked a0), (1, eS 3 ePartPromise a1), (6, vi v6), (7, vi y8)]) (.cons rfl (.cons rfl (.cons rfl (.cons rfl .nil))))) ?_
    refine TriE.draw (by kernel_rfl) ?_
    refine RegD.run 2 [(46, vi v6), (45, eS 3 ePartPromise a1), (0, eS 3 eStocked a0), (1, eS 3 ePartPromise a1), (6, vi v6), (7, vi y8)] [none, none] (by kernel_rfl) ?_
    obtain ⟨c7, h⟩ := chk_some h
    refine dv (vi ((v6 + 1 : Nat) : Int)) (cy (I0 47 (.bin .add false (.t 46) (.c (.p (.int .i64 1)))))) (r_addn (i := v6) (j := 1) rfl rfl c7) rfl ?_
    obtain ⟨c8, h⟩ := chk_some h
    refine dv (eS 3 ePartPromise (List.take (v6 + 1) a1)) (cy (I0 48 (.slc 3 (.t 45) none (some (.t 47)) none))) (ok_slc_hi (j := v6 + 1) rfl rfl rfl c8) rfl ?_
    refine RegD.run 2 [(50, vi v6), (49, eS 3 ePartPromise a1), (48, eS 3 ePartPromise (List.take (v6 + 1) a1)), (47, vi ((v6 + 1 : Nat) : Int)), (46, vi v6), (45, eS 3 ePartPromise a1), (0, eS 3 eStocked a0), (1, eS 3 ePartPromise a1), (6, vi v6), (7, vi y8)] [none, none, none, none, none, none] (by kernel_rfl) ?_
    refine dv (.fptr 3 (List.map ePartPromise a1) v6 0) (cy (I0 51 (.iaddr 3 (.t 49) (.t 50)))) (ok_iaddr_m (j := v6) rfl rfl rfl c3) rfl ?_
    refine RegD.run 1 [(52, .fptr 3 (List.map ePartPromise a1) v6 1), (51, .fptr 3 (List.map ePartPromise a1) v6 0), (50, vi v6), (49, eS 3 ePartPromise a1), (48, eS 3 ePartPromise (List.take (v6 + 1) a1)), (47, vi ((v6 + 1 : Nat) : Int)), (46, vi v6), (45, eS 3 ePartPromise a1), (0, eS 3 eStocked a0), (1, eS 3 ePartPromise a1), (6, vi v6), (7, vi y8)] [none, none, none, none, none, none, none, none] (by kernel_rfl) ?_
    refine dv (vt ((ix a1 v6).Part)) (cy (I0 53 (.load false 1 (.t 52)))) (ok_load_fm (v := vt ((ix a1 v6).Part)) rfl c3 rfl) rfl ?_
    obtain ⟨y10, hy10, h⟩ := bind_some h
    refine RegD.op (OpD.call (y' := vi y10) (obx := []) (oby := []) (ob2 := [none, none, none, none, none, none, none, none, none, none]) (tch := []) 0 _ _ (cy (I0 54 (.call 109 [(.t 48), (.t 53)]))) (agrafferef08_promised_ok n (List.take (v6 + 1) a1) ((ix a1 v6).Part) y10 hy10) [] (by kernel_rfl) (.cons rfl (.cons rfl (.cons rfl .nil))) (by kernel_rfl) (by kernel_rfl) ObsRen.nil (by kernel_rfl) ObsRen.nil (by kernel_rfl) rfl (.inr ⟨rfl, rfl⟩)) ?_
    refine RegD.run 2 [(56, vi y8), (55, eS 3 eStocked a0), (54, vi y10), (53, vt ((ix a1 v6).Part)), (52, .fptr 3 (List.map ePartPromise a1) v6 1), (51, .fptr 3 (List.map ePartPromise a1) v6 0), (50, vi v6), (49, eS 3 ePartPromise a1), (48, eS 3 ePartPromise (List.take (v6 + 1) a1)), (47, vi ((v6 + 1 : Nat) : Int)), (46, vi v6), (45, eS 3 ePartPromise a1), (0, eS 3 eStocked a0), (1, eS 3 ePartPromise a1), (6, vi v6), (7, vi y8)] [none, none, none, none, none, none, none, none, none, none, none, none] (by kernel_rfl) ?_
    obtain ⟨c9, h⟩ := chk_some h
    refine dv (.fptr 3 (List.map eStocked a0) y8.toNat 0) (cy (I0 57 (.iaddr 3 (.t 55) (.t 56)))) (ok_iaddr_m (j := y8.toNat) rfl rfl (inB_to c9) (inB_lt c9)) rfl ?_
    refine RegD.run 1 [(58, .fptr 3 (List.map eStocked a0) y8.toNat 2), (57, .fptr 3 (List.map eStocked a0) y8.toNat 0), (56, vi y8), (55, eS 3 eStocked a0), (54, vi y10), (53, vt ((ix a1 v6).Part)), (52, .fptr 3 (List.map ePartPromise a1) v6 1), (51, .fptr 3 (List.map ePartPromise a1) v6 0), (50, vi v6), (49, eS 3 ePartPromise a1), (48, eS 3 ePartPromise (List.take (v6 + 1) a1)), (47, vi ((v6 + 1 : Nat) : Int)), (46, vi v6), (45, eS 3 ePartPromise a1), (0, eS 3 eStocked a0), (1, eS 3 ePartPromise a1), (6, vi v6), (7, vi y8)] [none, none, none, none, none, none, none, none, none, none, none, none, none, none] (by kernel_rfl) ?_
    obtain ⟨c10, h⟩ := chk_some h
    refine dv (vi ((ix a0 y8.toNat).Count)) (cy (I0 59 (.load false 1 (.t 58)))) (ok_load_fm (v := vi ((ix a0 y8.toNat).Count)) rfl c10 rfl) rfl ?_
    refine RegD.run 1 [(60, vb (decide (((ix a0 y8.toNat).Count) < y10))), (59, vi ((ix a0 y8.toNat).Count)), (58, .fptr 3 (List.map eStocked a0) y8.toNat 2), (57, .fptr 3 (List.map eStocked a0) y8.toNat 0), (56, vi y8), (55, eS 3 eStocked a0), (54, vi y10), (53, vt ((ix a1 v6).Part)), (52, .fptr 3 (List.map ePartPromise a1) v6 1), (51, .fptr 3 (List.map ePartPromise a1) v6 0), (50, vi v6), (49, eS 3 ePartPromise a1), (48, eS 3 ePartPromise (List.take (v6 + 1) a1)), (47, vi ((v6 + 1 : Nat) : Int)), (46, vi v6), (45, eS 3 ePartPromise a1), (0, eS 3 eStocked a0), (1, eS 3 ePartPromise a1), (6, vi v6), (7, vi y8)] [none, none, none, none, none, none, none, none, none, none, none, none, none, none, none, none] (by kernel_rfl) ?_
    refine RegD.done rfl (by kernel_rfl) (S' := ⟨[(0, eS 3 eStocked a0), (1, eS 3 ePartPromise a1), (6, vi v6), (60, vb (decide (((ix a0 y8.toNat).Count) < y10)))], []⟩) (sc [] (by decide) (by kernel_rfl) ObRen.nil rfl rfl) ?_
    refine TriE.cond (b := decide (((ix a0 y8.toNat).Count) < y10)) rfl (fun c11 => ?_) (fun c11 => ?_)
    · have h := cond_t h c11
      refine sr [(4, vi 20)] [] ?_
      refine TriE.ret ?_
      have h := Option.some.inj h
      subst h
      exact DoneS.ret (S' := ⟨[(4, vi 20)], []⟩) Sees.refl rfl rfl
    have h := cond_f h c11
    refine TriE.skip ?_
    refine TriE.regJ ?_
    refine rn 1 [(0, eS 3 eStocked a0), (1, eS 3 ePartPromise a1), (20, vi v6)] [] ?_
    refine jv (vi ((v6 + 1 : Nat) : Int)) (cy (I0 21 (.bin .add false (.t 20) (.c (.p (.int .i64 1)))))) (r_addn (i := v6) (j := 1) rfl rfl c7) rfl ?_
    refine jq 1 [(0, eS 3 eStocked a0), (1, eS 3 ePartPromise a1), (6, vi ((v6 + 1 : Nat) : Int))] [] ?_
    exact Vs.intro sy ⟨(v6 + 1), rfl, h⟩
  have h := cond_f h c3
  refine TriE.exit ?_
  exact Vs.intro sy ⟨(), rfl, h⟩
theorem agrafferef08_promised_2_ok (n : Nat) (a0 : List PartPromise) (a1 : Nat) (a2 : Nat) (a3 : Str) (r : Int) (h : agrafferef08_promised_2 n a0 a1 a2 a3 = some r) : FnL Tryz.prog 109 [.own 0 a1 a2, vt a3] [some (.row 3 (List.map ePartPromise a0))] (vi r) [some (.row 3 (List.map ePartPromise a0))] := by
  dsimp only [agrafferef08_promised_2] at h
  refine FnL.ofS (ts := [4]) Tryz.call109 Tryz.func109 rfl rfl (Nat.le_of_ble_eq_true rfl) (Nat.le_of_ble_eq_true rfl) (hall_of (.cons rfl .nil)) ?_
  refine sr [(0, .own 0 a1 a2), (1, vt a3)] [some (.row 3 (List.map ePartPromise a0))] ?_
  refine sr [(0, .own 0 a1 a2), (1, vt a3), (5, vi 0)] [some (.row 3 (List.map ePartPromise a0))] ?_
  refine TriE.seqK h (fun (v5 : Int) => St.mk [(5, vi v5)] [some (.row 3 (List.map ePartPromise a0))]) ?_ ?_
  · rintro v5 h
    refine sr [(4, vi v5)] [some (.row 3 (List.map ePartPromise a0))] ?_
    refine TriE.ret ?_
    have h := Option.some.inj h
    subst h
    exact DoneS.ret (S' := ⟨[(4, vi v5)], [some (.row 3 (List.map ePartPromise a0))]⟩) Sees.refl rfl rfl
  intro k2 h
  refine sr [(0, .own 0 a1 a2), (1, vt a3), (5, vi 0), (6, vi 0)] [some (.row 3 (List.map ePartPromise a0))] ?_
  refine TriE.block ?_
  refine TriE.sees (S' := ⟨[(0, .own 0 a1 a2), (1, vt a3), (5, vi 0), (6, vi 0)], [some (.row 3 (List.map ePartPromise a0))]⟩) sy ?_
  refine TriE.loopN h (fun (t : Int × Nat) => match t with | (v2, v3) => St.mk [(0, .own 0 a1 a2), (1, vt a3), (5, vi v2), (6, vi v3)] [some (.row 3 (List.map ePartPromise a0))]) rfl ?_
  clear h
  rintro back ⟨v2, v3⟩ h
  dsimp only [agrafferef08_promised_2_L1] at h
  refine TriE.seq ?_
  refine sj ?_
  refine rn 3 [(0, .own 0 a1 a2), (1, vt a3), (5, vi v2), (6, vi v3), (7, vi v3), (9, vi a2)] [some (.row 3 (List.map ePartPromise a0))] ?_
  refine jv (vb (decide (v3 < a2))) (cy (I0 10 (.bin .lss false (.t 7) (.t 9)))) (n_lss (i := v3) (j := a2) rfl rfl) rfl ?_
  refine jp [(0, .own 0 a1 a2), (1, vt a3), (5, vi v2), (6, vi v3), (10, vb (decide (v3 < a2)))] ?_
  refine TriE.cond (b := decide (v3 < a2)) rfl (fun c1 => ?_) (fun c1 => ?_)
  · have h := cond_t h c1
    refine TriE.skip ?_
    refine TriE.seqK h (fun (v4 : Int) => St.mk [(0, .own 0 a1 a2), (1, vt a3), (6, vi v3), (5, vi v4)] [some (.row 3 (List.map ePartPromise a0))]) ?_ ?_
    · rintro v4 h
      refine TriE.regJ ?_
      refine rn 1 [(0, .own 0 a1 a2), (1, vt a3), (5, vi v4), (11, vi v3)] [some (.row 3 (List.map ePartPromise a0))] ?_
      obtain ⟨c5, h⟩ := chk_some h
      refine jv (vi ((v3 + 1 : Nat) : Int)) (cy (I0 12 (.bin .add false (.t 11) (.c (.p (.int .i64 1)))))) (r_addn (i := v3) (j := 1) rfl rfl c5) rfl ?_
      refine jq 1 [(0, .own 0 a1 a2), (1, vt a3), (5, vi v4), (6, vi ((v3 + 1 : Nat) : Int))] [some (.row 3 (List.map ePartPromise a0))] ?_
      exact Vs.intro sy ⟨(v4, v3 + 1), rfl, h⟩
    intro k1 h
    refine TriE.block ?_
    refine sj ?_
    refine rn 2 [(0, .own 0 a1 a2), (1, vt a3), (5, vi v2), (6, vi v3), (13, .own 0 a1 a2), (14, vi v3)] [some (.row 3 (List.map ePartPromise a0))] ?_
    refine jv (.ptr 0 (a1 + v3) 0) (cy (I0 15 (.iaddr 3 (.t 13) (.t 14)))) (ok_iaddr_o (j := v3) rfl rfl rfl rfl c1) rfl ?_
    refine rn 1 [(0, .own 0 a1 a2), (1, vt a3), (5, vi v2), (6, vi v3), (16, .ptr 0 (a1 + v3) 1)] [some (.row 3 (List.map ePartPromise a0))] ?_
    obtain ⟨c2, h⟩ := chk_some h
    refine jv (vt ((ix a0 (a1 + v3)).Part)) (cy (I0 17 (.load false 1 (.t 16)))) (ok_load_pm (l := a0) (e := ePartPromise) (v := vt ((ix a0 (a1 + v3)).Part)) rfl rfl c2 rfl) rfl ?_
    refine jq 2 [(0, .own 0 a1 a2), (1, vt a3), (5, vi v2), (6, vi v3), (19, vb (((ix a0 (a1 + v3)).Part) == a3))] [some (.row 3 (List.map ePartPromise a0))] ?_
    refine TriE.cond (b := (((ix a0 (a1 + v3)).Part) == a3)) rfl (fun c3 => ?_) (fun c3 => ?_)
    · have h := cond_t h c3
      refine TriE.regJ ?_
      refine rn 3 [(0, .own 0 a1 a2), (1, vt a3), (6, vi v3), (20, vi v2), (21, .own 0 a1 a2), (22, vi v3)] [some (.row 3 (List.map ePartPromise a0))] ?_
      refine jv (.ptr 0 (a1 + v3) 0) (cy (I0 23 (.iaddr 3 (.t 21) (.t 22)))) (ok_iaddr_o (j := v3) rfl rfl rfl rfl c1) rfl ?_
      refine rn 1 [(0, .own 0 a1 a2), (1, vt a3), (6, vi v3), (20, vi v2), (24, .ptr 0 (a1 + v3) 2)] [some (.row 3 (List.map ePartPromise a0))] ?_
      refine jv (vi ((ix a0 (a1 + v3)).Count)) (cy (I0 25 (.load false 1 (.t 24)))) (ok_load_pm (l := a0) (e := ePartPromise) (v := vi ((ix a0 (a1 + v3)).Count)) rfl rfl c2 rfl) rfl ?_
      obtain ⟨c4, h⟩ := chk_some h
      refine jv (vi (v2 + ((ix a0 (a1 + v3)).Count))) (cy (I0 26 (.bin .add false (.t 20) (.t 25)))) (r_add rfl rfl c4) rfl ?_
      refine jq 1 [(0, .own 0 a1 a2), (1, vt a3), (6, vi v3), (5, vi (v2 + ((ix a0 (a1 + v3)).Count)))] [some (.row 3 (List.map ePartPromise a0))] ?_
      exact Vs.intro Sees.refl ⟨(v2 + ((ix a0 (a1 + v3)).Count)), rfl, h⟩
    have h := cond_f h c3
    refine TriE.skip ?_
    exact Vs.intro sy ⟨v2, rfl, h⟩
  have h := cond_f h c1
  refine TriE.exit ?_
  exact Vs.intro sy ⟨v2, rfl, h⟩
theorem agrafferef08_CheckPromises_2_ok (n : Nat) (a0 : List Stocked) (a1 : List PartPromise) (r : Int) (h : agrafferef08_CheckPromises_2 n a0 a1 = some r) : FnL Tryz.prog 43 [eS 3 eStocked a0, .own 0 0 a1.length] [some (.row 3 (List.map ePartPromise a1))] (vi r) [some (.row 3 (List.map ePartPromise a1))] := by
  dsimp only [agrafferef08_CheckPromises_2] at h
  refine FnL.ofS (ts := [4]) Tryz.call43 Tryz.func43 rfl rfl (Nat.le_of_ble_eq_true rfl) (Nat.le_of_ble_eq_true rfl) (hall_of (.cons rfl .nil)) ?_
  refine sr [(0, eS 3 eStocked a0), (1, .own 0 0 a1.length)] [some (.row 3 (List.map ePartPromise a1))] ?_
  refine TriE.seq ?_
  refine sj ?_
  refine rn 1 [(0, eS 3 eStocked a0), (1, .own 0 0 a1.length), (8, eS 3 eStocked a0)] [some (.row 3 (List.map ePartPromise a1))] ?_
  obtain ⟨y1, hy1, h⟩ := bind_some h
  refine RegJ.op (Op1.call (y' := vi y1) (obx := []) (oby := []) (ob2 := [some (.row 3 (List.map ePartPromise a1))]) _ _ (cy (I0 9 (.call 24 [(.t 8)]))) rfl (agrafferef08_CheckStock_ok n a0 y1 hy1) [] (by kernel_rfl) (.cons rfl (.cons rfl .nil)) (by kernel_rfl) (by kernel_rfl) ObsRen.nil (by kernel_rfl) ObsRen.nil (by kernel_rfl)) ?_
  refine jq 1 [(0, eS 3 eStocked a0), (1, .own 0 0 a1.length), (5, vi y1)] [some (.row 3 (List.map ePartPromise a1))] ?_
  refine sr [(0, eS 3 eStocked a0), (1, .own 0 0 a1.length), (5, vi y1), (11, vb (y1 != (0 : Int)))] [some (.row 3 (List.map ePartPromise a1))] ?_
  refine TriE.cond (b := (y1 != (0 : Int))) rfl (fun c1 => ?_) (fun c1 => ?_)
  · have h := cond_t h c1
    refine sr [(4, vi y1)] [some (.row 3 (List.map ePartPromise a1))] ?_
    refine TriE.ret ?_
    have h := Option.some.inj h
    subst h
    exact DoneS.ret (S' := ⟨[(4, vi y1)], [some (.row 3 (List.map ePartPromise a1))]⟩) Sees.refl rfl rfl
  have h := cond_f h c1
  refine TriE.skip ?_
  refine TriE.seq ?_
  refine sj ?_
  refine rn 2 [(0, eS 3 eStocked a0), (1, .own 0 0 a1.length), (14, vi (a1.length : Int))] [some (.row 3 (List.map ePartPromise a1))] ?_
  refine jv (vb (decide (200 < a1.length))) (cy (I0 15 (.bin .gtr false (.t 14) (.c (.p (.int .i64 200)))))) (n_gtr (i := a1.length) (j := 200) rfl rfl) rfl ?_
  refine jp [(0, eS 3 eStocked a0), (1, .own 0 0 a1.length), (15, vb (decide (200 < a1.length)))] ?_
  refine TriE.cond (b := decide (200 < a1.length)) rfl (fun c2 => ?_) (fun c2 => ?_)
  · have h := cond_t h c2
    refine sr [(4, vi 8)] [some (.row 3 (List.map ePartPromise a1))] ?_
    refine TriE.ret ?_
    have h := Option.some.inj h
    subst h
    exact DoneS.ret (S' := ⟨[(4, vi 8)], [some (.row 3 (List.map ePartPromise a1))]⟩) Sees.refl rfl rfl
  have h := cond_f h c2
  refine TriE.skip ?_
  refine TriE.seqK h (fun (_ : Unit) => St.mk [] [some (.row 3 (List.map ePartPromise a1))]) ?_ ?_
  · rintro ⟨⟩ h
    refine sr [(4, vi 0)] [some (.row 3 (List.map ePartPromise a1))] ?_
    refine TriE.ret ?_
    have h := Option.some.inj h
    subst h
    exact DoneS.ret (S' := ⟨[(4, vi 0)], [some (.row 3 (List.map ePartPromise a1))]⟩) Sees.refl rfl rfl
  intro k1 h
  refine sr [(0, eS 3 eStocked a0), (1, .own 0 0 a1.length), (6, vi 0)] [some (.row 3 (List.map ePartPromise a1))] ?_
  refine TriE.block ?_
  refine TriE.sees (S' := ⟨[(0, eS 3 eStocked a0), (1, .own 0 0 a1.length), (6, vi 0)], [some (.row 3 (List.map ePartPromise a1))]⟩) sy ?_
  refine TriE.loopN h (fun (v6 : Nat) => St.mk [(0, eS 3 eStocked a0), (1, .own 0 0 a1.length), (6, vi v6)] [some (.row 3 (List.map ePartPromise a1))]) rfl ?_
  clear h
  rintro back v6 h
  dsimp only [agrafferef08_CheckPromises_2_L1] at h
  refine TriE.seq ?_
  refine sj ?_
  refine rn 3 [(0, eS 3 eStocked a0), (1, .own 0 0 a1.length), (6, vi v6), (16, vi v6), (18, vi (a1.length : Int))] [some (.row 3 (List.map ePartPromise a1))] ?_
  refine jv (vb (decide (v6 < a1.length))) (cy (I0 19 (.bin .lss false (.t 16) (.t 18)))) (n_lss (i := v6) (j := a1.length) rfl rfl) rfl ?_
  refine jp [(0, eS 3 eStocked a0), (1, .own 0 0 a1.length), (6, vi v6), (19, vb (decide (v6 < a1.length)))] ?_
  refine TriE.cond (b := decide (v6 < a1.length)) rfl (fun c3 => ?_) (fun c3 => ?_)
  · have h := cond_t h c3
    refine TriE.skip ?_
    refine TriE.seq ?_
    refine TriE.block ?_
    refine TriE.seq ?_
    refine sj ?_
    refine rn 2 [(0, eS 3 eStocked a0), (1, .own 0 0 a1.length), (6, vi v6), (22, .own 0 0 a1.length), (23, vi v6)] [some (.row 3 (List.map ePartPromise a1))] ?_
    refine jv (.ptr 0 v6 0) (cy (I0 24 (.iaddr 3 (.t 22) (.t 23)))) (ok_iaddr_o0 (j := v6) rfl rfl rfl rfl c3) rfl ?_
    refine rn 1 [(0, eS 3 eStocked a0), (1, .own 0 0 a1.length), (6, vi v6), (25, .ptr 0 v6 0)] [some (.row 3 (List.map ePartPromise a1))] ?_
    refine jv (vt ((ix a1 v6).Instrument)) (cy (I0 26 (.load false 1 (.t 25)))) (ok_load_pm (l := a1) (e := ePartPromise) (v := vt ((ix a1 v6).Instrument)) rfl rfl c3 rfl) rfl ?_
    obtain ⟨y7, hy7, h⟩ := bind_some h
    refine RegJ.op (Op1.call (y' := vb y7) (obx := []) (oby := []) (ob2 := [some (.row 3 (List.map ePartPromise a1))]) _ _ (cy (I0 27 (.call 92 [(.t 26)]))) rfl (agraffebase_IsName_ok n ((ix a1 v6).Instrument) y7 hy7) [] (by kernel_rfl) (.cons rfl (.cons rfl .nil)) (by kernel_rfl) (by kernel_rfl) ObsRen.nil (by kernel_rfl) ObsRen.nil (by kernel_rfl)) ?_
    refine jq 1 [(0, eS 3 eStocked a0), (1, .own 0 0 a1.length), (6, vi v6), (28, vb (!y7))] [some (.row 3 (List.map ePartPromise a1))] ?_
    refine TriE.cond (b := !y7) rfl (fun c4 => ?_) (fun c4 => ?_)
    · have h := cond_t h c4
      refine sr [(4, vi 4)] [some (.row 3 (List.map ePartPromise a1))] ?_
      refine TriE.ret ?_
      have h := Option.some.inj h
      subst h
      exact DoneS.ret (S' := ⟨[(4, vi 4)], [some (.row 3 (List.map ePartPromise a1))]⟩) Sees.refl rfl rfl
    have h := cond_f h c4
    refine TriE.skip ?_
    refine sj ?_
    refine rn 3 [(0, eS 3 eStocked a0), (1, .own 0 0 a1.length), (6, vi v6), (29, eS 3 eStocked a0), (30, .own 0 0 a1.length), (31, vi v6)] [some (.row 3 (List.map ePartPromise a1))] ?_
    refine jv (.ptr 0 v6 0) (cy (I0 32 (.iaddr 3 (.t 30) (.t 31)))) (ok_iaddr_o0 (j := v6) rfl rfl rfl rfl c3) rfl ?_
    refine rn 1 [(0, eS 3 eStocked a0), (1, .own 0 0 a1.length), (6, vi v6), (29, eS 3 eStocked a0), (33, .ptr 0 v6 1)] [some (.row 3 (List.map ePartPromise a1))] ?_
    refine jv (vt ((ix a1 v6).Part)) (cy (I0 34 (.load false 1 (.t 33)))) (ok_load_pm (l := a1) (e := ePartPromise) (v := vt ((ix a1 v6).Part)) rfl rfl c3 rfl) rfl ?_
    obtain ⟨y8, hy8, h⟩ := bind_some h
    refine RegJ.op (Op1.call (y' := vi y8) (obx := []) (oby := []) (ob2 := [some (.row 3 (List.map ePartPromise a1))]) _ _ (cy (I0 35 (.call 74 [(.t 29), (.t 34)]))) rfl (agrafferef08_FindStock_ok n a0 ((ix a1 v6).Part) y8 hy8) [] (by kernel_rfl) (.cons rfl (.cons rfl (.cons rfl .nil))) (by kernel_rfl) (by kernel_rfl) ObsRen.nil (by kernel_rfl) ObsRen.nil (by kernel_rfl)) ?_
    refine jq 1 [(0, eS 3 eStocked a0), (1, .own 0 0 a1.length), (6, vi v6), (7, vi y8)] [some (.row 3 (List.map ePartPromise a1))] ?_
    refine TriE.seq ?_
    refine sr [(0, eS 3 eStocked a0), (1, .own 0 0 a1.length), (6, vi v6), (7, vi y8), (37, vb (decide (y8 < (0 : Int))))] [some (.row 3 (List.map ePartPromise a1))] ?_
    refine TriE.cond (b := decide (y8 < (0 : Int))) rfl (fun c5 => ?_) (fun c5 => ?_)
    · have h := cond_t h c5
      refine sr [(4, vi 6)] [some (.row 3 (List.map ePartPromise a1))] ?_
      refine TriE.ret ?_
      have h := Option.some.inj h
      subst h
      exact DoneS.ret (S' := ⟨[(4, vi 6)], [some (.row 3 (List.map ePartPromise a1))]⟩) Sees.refl rfl rfl
    have h := cond_f h c5
    refine TriE.skip ?_
    refine TriE.seq ?_
    refine sj ?_
    refine rn 2 [(0, eS 3 eStocked a0), (1, .own 0 0 a1.length), (6, vi v6), (7, vi y8), (38, .own 0 0 a1.length), (39, vi v6)] [some (.row 3 (List.map ePartPromise a1))] ?_
    refine jv (.ptr 0 v6 0) (cy (I0 40 (.iaddr 3 (.t 38) (.t 39)))) (ok_iaddr_o0 (j := v6) rfl rfl rfl rfl c3) rfl ?_
    refine rn 1 [(0, eS 3 eStocked a0), (1, .own 0 0 a1.length), (6, vi v6), (7, vi y8), (41, .ptr 0 v6 2)] [some (.row 3 (List.map ePartPromise a1))] ?_
    refine jv (vi ((ix a1 v6).Count)) (cy (I0 42 (.load false 1 (.t 41)))) (ok_load_pm (l := a1) (e := ePartPromise) (v := vi ((ix a1 v6).Count)) rfl rfl c3 rfl) rfl ?_
    obtain ⟨y9, hy9, h⟩ := bind_some h
    refine RegJ.op (Op1.call (y' := vb ((decide (1 ≤ ((ix a1 v6).Count))) && (decide (((ix a1 v6).Count) ≤ 10000)))) (obx := []) (oby := []) (ob2 := [some (.row 3 (List.map ePartPromise a1))]) _ _ (cy (I0 43 (.call 93 [(.t 42), (.c (.p (.int .i64 1))), (.c (.p (.int .i64 10000)))]))) rfl (agraffebase_Within_ok n ((ix a1 v6).Count) 1 10000 y9 hy9) [] (by kernel_rfl) (.cons rfl (.cons rfl (.cons rfl (.cons rfl .nil)))) (by kernel_rfl) (by kernel_rfl) ObsRen.nil (by kernel_rfl) ObsRen.nil (by kernel_rfl)) ?_
    refine jq 1 [(0, eS 3 eStocked a0), (1, .own 0 0 a1.length), (6, vi v6), (7, vi y8), (44, vb (!((decide (1 ≤ ((ix a1 v6).Count))) && (decide (((ix a1 v6).Count) ≤ 10000)))))] [some (.row 3 (List.map ePartPromise a1))] ?_
    refine TriE.cond (b := !((decide (1 ≤ ((ix a1 v6).Count))) && (decide (((ix a1 v6).Count) ≤ 10000)))) rfl (fun c6 => ?_) (fun c6 => ?_)
    · have h := cond_t h c6
      refine sr [(4, vi 2)] [some (.row 3 (List.map ePartPromise a1))] ?_
      refine TriE.ret ?_
      have h := Option.some.inj h
      subst h
      exact DoneS.ret (S' := ⟨[(4, vi 2)], [some (.row 3 (List.map ePartPromise a1))]⟩) Sees.refl rfl rfl
    have h := cond_f h c6
    refine TriE.skip ?_
    refine TriE.seq ?_
    refine TriE.sees (Sees.less (fr' := [(0, eS 3 eStocked a0), (1, .own 0 0 a1.length), (6, vi v6), (7, vi y8)]) (.cons rfl (.cons rfl (.cons rfl (.cons rfl .nil))))) ?_
    refine TriE.draw (by kernel_rfl) ?_
    refine RegD.run 2 [(46, vi v6), (45, .own 0 0 a1.length), (0, eS 3 eStocked a0), (1, .own 0 0 a1.length), (6, vi v6), (7, vi y8)] [some (.row 3 (List.map ePartPromise a1)), none, none] (by kernel_rfl) ?_
    obtain ⟨c7, h⟩ := chk_some h
    refine dv (vi ((v6 + 1 : Nat) : Int)) (cy (I0 47 (.bin .add false (.t 46) (.c (.p (.int .i64 1)))))) (r_addn (i := v6) (j := 1) rfl rfl c7) rfl ?_
    obtain ⟨c8, h⟩ := chk_some h
    refine dv (.own 0 0 (v6 + 1)) (cy (I0 48 (.slc 3 (.t 45) none (some (.t 47)) none))) (ok_slco_hi (j := v6 + 1) rfl rfl rfl rfl c8) rfl ?_
    refine RegD.run 2 [(50, vi v6), (49, .own 0 0 a1.length), (48, .own 0 0 (v6 + 1)), (47, vi ((v6 + 1 : Nat) : Int)), (46, vi v6), (45, .own 0 0 a1.length), (0, eS 3 eStocked a0), (1, .own 0 0 a1.length), (6, vi v6), (7, vi y8)] [some (.row 3 (List.map ePartPromise a1)), none, none, none, none, none, none] (by kernel_rfl) ?_
    refine dv (.ptr 0 v6 0) (cy (I0 51 (.iaddr 3 (.t 49) (.t 50)))) (ok_iaddr_o0 (j := v6) rfl rfl rfl rfl c3) rfl ?_
    refine RegD.run 1 [(52, .ptr 0 v6 1), (51, .ptr 0 v6 0), (50, vi v6), (49, .own 0 0 a1.length), (48, .own 0 0 (v6 + 1)), (47, vi ((v6 + 1 : Nat) : Int)), (46, vi v6), (45, .own 0 0 a1.length), (0, eS 3 eStocked a0), (1, .own 0 0 a1.length), (6, vi v6), (7, vi y8)] [some (.row 3 (List.map ePartPromise a1)), none, none, none, none, none, none, none, none] (by kernel_rfl) ?_
    refine dv (vt ((ix a1 v6).Part)) (cy (I0 53 (.load false 1 (.t 52)))) (ok_load_pm (l := a1) (e := ePartPromise) (v := vt ((ix a1 v6).Part)) rfl rfl c3 rfl) rfl ?_
    obtain ⟨y10, hy10, h⟩ := bind_some h
    refine RegD.op (OpD.call (y' := vi y10) (obx := [some (.row 3 (List.map ePartPromise a1))]) (oby := [some (.row 3 (List.map ePartPromise a1))]) (ob2 := [some (.row 3 (List.map ePartPromise a1)), none, none, none, none, none, none, none, none, none, none]) (tch := []) 0 _ _ (cy (I0 54 (.call 109 [(.t 48), (.t 53)]))) (agrafferef08_promised_2_ok n a1 0 (v6 + 1) ((ix a1 v6).Part) y10 hy10) [0] (by kernel_rfl) (.cons rfl (.cons rfl (.cons rfl .nil))) (by kernel_rfl) (by kernel_rfl) (.same (row_ren ePartPromise_frz _ _ _) .nil) (by kernel_rfl) (.same (row_ren ePartPromise_frz _ _ _) .nil) (by kernel_rfl) rfl (.inr ⟨rfl, rfl⟩)) ?_
    refine RegD.run 2 [(56, vi y8), (55, eS 3 eStocked a0), (54, vi y10), (53, vt ((ix a1 v6).Part)), (52, .ptr 0 v6 1), (51, .ptr 0 v6 0), (50, vi v6), (49, .own 0 0 a1.length), (48, .own 0 0 (v6 + 1)), (47, vi ((v6 + 1 : Nat) : Int)), (46, vi v6), (45, .own 0 0 a1.length), (0, eS 3 eStocked a0), (1, .own 0 0 a1.length), (6, vi v6), (7, vi y8)] [some (.row 3 (List.map ePartPromise a1)), none, none, none, none, none, none, none, none, none, none, none, none] (by kernel_rfl) ?_
    obtain ⟨c9, h⟩ := chk_some h
    refine dv (.fptr 3 (List.map eStocked a0) y8.toNat 0) (cy (I0 57 (.iaddr 3 (.t 55) (.t 56)))) (ok_iaddr_m (j := y8.toNat) rfl rfl (inB_to c9) (inB_lt c9)) rfl ?_
    refine RegD.run 1 [(58, .fptr 3 (List.map eStocked a0) y8.toNat 2), (57, .fptr 3 (List.map eStocked a0) y8.toNat 0), (56, vi y8), (55, eS 3 eStocked a0), (54, vi y10), (53, vt ((ix a1 v6).Part)), (52, .ptr 0 v6 1), (51, .ptr 0 v6 0), (50, vi v6), (49, .own 0 0 a1.length), (48, .own 0 0 (v6 + 1)), (47, vi ((v6 + 1 : Nat) : Int)), (46, vi v6), (45, .own 0 0 a1.length), (0, eS 3 eStocked a0), (1, .own 0 0 a1.length), (6, vi v6), (7, vi y8)] [some (.row 3 (List.map ePartPromise a1)), none, none, none, none, none, none, none, none, none, none, none, none, none, none] (by kernel_rfl) ?_
    obtain ⟨c10, h⟩ := chk_some h
    refine dv (vi ((ix a0 y8.toNat).Count)) (cy (I0 59 (.load false 1 (.t 58)))) (ok_load_fm (v := vi ((ix a0 y8.toNat).Count)) rfl c10 rfl) rfl ?_
    refine RegD.run 1 [(60, vb (decide (((ix a0 y8.toNat).Count) < y10))), (59, vi ((ix a0 y8.toNat).Count)), (58, .fptr 3 (List.map eStocked a0) y8.toNat 2), (57, .fptr 3 (List.map eStocked a0) y8.toNat 0), (56, vi y8), (55, eS 3 eStocked a0), (54, vi y10), (53, vt ((ix a1 v6).Part)), (52, .ptr 0 v6 1), (51, .ptr 0 v6 0), (50, vi v6), (49, .own 0 0 a1.length), (48, .own 0 0 (v6 + 1)), (47, vi ((v6 + 1 : Nat) : Int)), (46, vi v6), (45, .own 0 0 a1.length), (0, eS 3 eStocked a0), (1, .own 0 0 a1.length), (6, vi v6), (7, vi y8)] [some (.row 3 (List.map ePartPromise a1)), none, none, none, none, none, none, none, none, none, none, none, none, none, none, none, none] (by kernel_rfl) ?_
    refine RegD.done rfl (by kernel_rfl) (S' := ⟨[(0, eS 3 eStocked a0), (1, .own 0 0 a1.length), (6, vi v6), (60, vb (decide (((ix a0 y8.toNat).Count) < y10)))], [some (.row 3 (List.map ePartPromise a1))]⟩) (sc [0] (by decide) (by kernel_rfl) (obRen_row ePartPromise_frz rfl .nil) rfl rfl) ?_
    refine TriE.cond (b := decide (((ix a0 y8.toNat).Count) < y10)) rfl (fun c11 => ?_) (fun c11 => ?_)
    · have h := cond_t h c11
      refine sr [(4, vi 20)] [some (.row 3 (List.map ePartPromise a1))] ?_
      refine TriE.ret ?_
      have h := Option.some.inj h
      subst h
      exact DoneS.ret (S' := ⟨[(4, vi 20)], [some (.row 3 (List.map ePartPromise a1))]⟩) Sees.refl rfl rfl
    have h := cond_f h c11
    refine TriE.skip ?_
    refine TriE.regJ ?_
    refine rn 1 [(0, eS 3 eStocked a0), (1, .own 0 0 a1.length), (20, vi v6)] [some (.row 3 (List.map ePartPromise a1))] ?_
    refine jv (vi ((v6 + 1 : Nat) : Int)) (cy (I0 21 (.bin .add false (.t 20) (.c (.p (.int .i64 1)))))) (r_addn (i := v6) (j := 1) rfl rfl c7) rfl ?_
    refine jq 1 [(0, eS 3 eStocked a0), (1, .own 0 0 a1.length), (6, vi ((v6 + 1 : Nat) : Int))] [some (.row 3 (List.map ePartPromise a1))] ?_
    exact Vs.intro sy ⟨(v6 + 1), rfl, h⟩
  have h := cond_f h c3
  refine TriE.exit ?_
  exact Vs.intro sy ⟨(), rfl, h⟩
theorem agrafferef08_AddPromise_ok (n : Nat) (a0 : List Stocked) (a1 : List PartPromise) (a2 : PartPromise) (r : Int × (List PartPromise)) (h : agrafferef08_AddPromise n a0 a1 a2 = some r) : FnL Tryz.prog 48 [eS 3 eStocked a0, eS 3 ePartPromise a1, .agg [vt a2.Instrument, vt a2.Part, vi a2.Count]] [] (.tup [eS 3 ePartPromise r.2, vi r.1]) [] := by
  dsimp only [agrafferef08_AddPromise] at h
  refine FnL.ofS (ts := [6, 7]) Tryz.call48 Tryz.func48 rfl rfl (Nat.le_of_ble_eq_true rfl) (Nat.le_of_ble_eq_true rfl) (fun j h => absurd h (Nat.not_lt_zero j)) ?_
  refine sr [(0, eS 3 eStocked a0), (1, eS 3 ePartPromise a1), (5, .ptr 0 0 0)] [some (.row 3 [.agg [vt a2.Instrument, vt a2.Part, vi a2.Count]])] ?_
  refine TriE.seq ?_
  refine sj ?_
  refine rn 2 [(0, eS 3 eStocked a0), (1, eS 3 ePartPromise a1), (5, .ptr 0 0 0), (11, eS 3 eStocked a0), (12, eS 3 ePartPromise a1)] [some (.row 3 [.agg [vt a2.Instrument, vt a2.Part, vi a2.Count]])] ?_
  obtain ⟨y1, hy1, h⟩ := bind_some h
  refine RegJ.op (Op1.call (y' := vi y1) (obx := []) (oby := []) (ob2 := [some (.row 3 [.agg [vt a2.Instrument, vt a2.Part, vi a2.Count]])]) _ _ (cy (I0 13 (.call 43 [(.t 11), (.t 12)]))) rfl (agrafferef08_CheckPromises_ok n a0 a1 y1 hy1) [] (by kernel_rfl) (.cons rfl (.cons rfl (.cons rfl .nil))) (by kernel_rfl) (by kernel_rfl) ObsRen.nil (by kernel_rfl) ObsRen.nil (by kernel_rfl)) ?_
  refine jq 1 [(0, eS 3 eStocked a0), (1, eS 3 ePartPromise a1), (5, .ptr 0 0 0), (8, vi y1)] [some (.row 3 [.agg [vt a2.Instrument, vt a2.Part, vi a2.Count]])] ?_
  refine sr [(0, eS 3 eStocked a0), (1, eS 3 ePartPromise a1), (5, .ptr 0 0 0), (8, vi y1), (15, vb (y1 != (0 : Int)))] [some (.row 3 [.agg [vt a2.Instrument, vt a2.Part, vi a2.Count]])] ?_
  refine TriE.cond (b := (y1 != (0 : Int))) rfl (fun c1 => ?_) (fun c1 => ?_)
  · have h := cond_t h c1
    refine sr [(6, .emp), (7, vi y1)] [some (.row 3 [.agg [vt a2.Instrument, vt a2.Part, vi a2.Count]])] ?_
    refine TriE.ret ?_
    have h := Option.some.inj h
    subst h
    exact DoneS.ret (S' := ⟨[(6, eS 3 ePartPromise ([] : List PartPromise)), (7, vi y1)], []⟩) (Sees.trans (Sees.vco (fr' := [(6, eS 3 ePartPromise ([] : List PartPromise)), (7, vi y1)]) (.cons .sl (.cons .same .nil))) (sc [] (by decide) (by kernel_rfl) ObRen.nil rfl rfl)) rfl rfl
  have h := cond_f h c1
  refine TriE.skip ?_
  refine TriE.seq ?_
  refine TriE.sees (Sees.less (fr' := [(0, eS 3 eStocked a0), (1, eS 3 ePartPromise a1), (5, .ptr 0 0 0)]) (.cons rfl (.cons rfl (.cons rfl .nil)))) ?_
  refine TriE.draw (by kernel_rfl) ?_
  refine RegD.run 2 [(18, eS 3 ePartPromise a1), (17, .emp), (0, eS 3 eStocked a0), (1, eS 3 ePartPromise a1), (5, .ptr 0 0 0)] [some (.row 3 [.agg [vt a2.Instrument, vt a2.Part, vi a2.Count]]), none, none] (by kernel_rfl) ?_
  obtain ⟨c2, h⟩ := chk_some h
  refine de (.own 3 0 a1.length) [some (.row 3 [.agg [vt a2.Instrument, vt a2.Part, vi a2.Count]]), none, none, some (.row 3 (List.map ePartPromise a1))] (cy (I0 19 (.app 3 40 (.t 17) (.t 18)))) (ok_app_emp (e := ePartPromise) (l := a1) (u := eS 3 ePartPromise a1) rfl rfl els_sl c2) rfl rfl rfl ?_
  refine RegD.run 2 [(21, .own 5 0 1), (20, .agg [vt a2.Instrument, vt a2.Part, vi a2.Count]), (19, .own 3 0 a1.length), (18, eS 3 ePartPromise a1), (17, .emp), (0, eS 3 eStocked a0), (1, eS 3 ePartPromise a1), (5, .ptr 0 0 0)] [some (.row 3 [.agg [vt a2.Instrument, vt a2.Part, vi a2.Count]]), none, none, some (.row 3 (List.map ePartPromise a1)), none, some (.row 3 [.agg [vt a2.Instrument, vt a2.Part, vi a2.Count]])] (by kernel_rfl) ?_
  obtain ⟨c3, h⟩ := chk_some h
  refine de (.own 6 0 ((a1 ++ ([a2] : List PartPromise)).length)) [some (.row 3 [.agg [vt a2.Instrument, vt a2.Part, vi a2.Count]]), none, none, none, none, some (.row 3 [.agg [vt a2.Instrument, vt a2.Part, vi a2.Count]]), some (.row 3 (List.map ePartPromise (a1 ++ ([a2] : List PartPromise))))] (cy (I0 22 (.app 3 40 (.t 19) (.t 21)))) (ok_app_own (l := a1) (l2 := ([a2] : List PartPromise)) (e := ePartPromise) (u := .own 5 0 1) rfl rfl rfl rfl rfl c3) rfl rfl rfl ?_
  refine RegD.run 1 [(9, .own 6 0 ((a1 ++ ([a2] : List PartPromise)).length)), (22, .own 6 0 ((a1 ++ ([a2] : List PartPromise)).length)), (21, .own 5 0 1), (20, .agg [vt a2.Instrument, vt a2.Part, vi a2.Count]), (19, .own 3 0 a1.length), (18, eS 3 ePartPromise a1), (17, .emp), (0, eS 3 eStocked a0), (1, eS 3 ePartPromise a1), (5, .ptr 0 0 0)] [some (.row 3 [.agg [vt a2.Instrument, vt a2.Part, vi a2.Count]]), none, none, none, none, some (.row 3 [.agg [vt a2.Instrument, vt a2.Part, vi a2.Count]]), some (.row 3 (List.map ePartPromise (a1 ++ ([a2] : List PartPromise)))), none] (by kernel_rfl) ?_
  refine RegD.done rfl (by kernel_rfl) (S' := ⟨[(0, eS 3 eStocked a0), (9, .own 0 0 ((a1 ++ ([a2] : List PartPromise)).length))], [some (.row 3 (List.map ePartPromise (a1 ++ ([a2] : List PartPromise))))]⟩) (sc [6] (by decide) (by kernel_rfl) (obRen_row ePartPromise_frz rfl .nil) rfl rfl) ?_
  refine TriE.seq ?_
  refine sj ?_
  refine rn 2 [(9, .own 0 0 ((a1 ++ ([a2] : List PartPromise)).length)), (23, eS 3 eStocked a0), (24, .own 0 0 ((a1 ++ ([a2] : List PartPromise)).length))] [some (.row 3 (List.map ePartPromise (a1 ++ ([a2] : List PartPromise))))] ?_
  obtain ⟨y2, hy2, h⟩ := bind_some h
  refine RegJ.op (Op1.call (y' := vi y2) (obx := [some (.row 3 (List.map ePartPromise (a1 ++ ([a2] : List PartPromise))))]) (oby := [some (.row 3 (List.map ePartPromise (a1 ++ ([a2] : List PartPromise))))]) (ob2 := [some (.row 3 (List.map ePartPromise (a1 ++ ([a2] : List PartPromise))))]) _ _ (cy (I0 25 (.call 43 [(.t 23), (.t 24)]))) rfl (agrafferef08_CheckPromises_2_ok n a0 (a1 ++ ([a2] : List PartPromise)) y2 hy2) [0] (by kernel_rfl) (.cons rfl (.cons rfl (.cons rfl .nil))) (by kernel_rfl) (by kernel_rfl) (.same (row_ren ePartPromise_frz _ _ _) .nil) (by kernel_rfl) (.same (row_ren ePartPromise_frz _ _ _) .nil) (by kernel_rfl)) ?_
  refine jq 1 [(9, .own 0 0 ((a1 ++ ([a2] : List PartPromise)).length)), (10, vi y2)] [some (.row 3 (List.map ePartPromise (a1 ++ ([a2] : List PartPromise))))] ?_
  refine sr [(9, .own 0 0 ((a1 ++ ([a2] : List PartPromise)).length)), (10, vi y2), (27, vb (y2 != (0 : Int)))] [some (.row 3 (List.map ePartPromise (a1 ++ ([a2] : List PartPromise))))] ?_
  refine TriE.cond (b := (y2 != (0 : Int))) rfl (fun c4 => ?_) (fun c4 => ?_)
  · have h := cond_t h c4
    refine sr [(6, .emp), (7, vi y2)] [some (.row 3 (List.map ePartPromise (a1 ++ ([a2] : List PartPromise))))] ?_
    refine TriE.ret ?_
    have h := Option.some.inj h
    subst h
    exact DoneS.ret (S' := ⟨[(6, eS 3 ePartPromise ([] : List PartPromise)), (7, vi y2)], []⟩) (Sees.trans (Sees.vco (fr' := [(6, eS 3 ePartPromise ([] : List PartPromise)), (7, vi y2)]) (.cons .sl (.cons .same .nil))) (sc [] (by decide) (by kernel_rfl) ObRen.nil rfl rfl)) rfl rfl
  have h := cond_f h c4
  refine TriE.skip ?_
  refine sr [(6, .own 0 0 ((a1 ++ ([a2] : List PartPromise)).length)), (7, vi 0)] [some (.row 3 (List.map ePartPromise (a1 ++ ([a2] : List PartPromise))))] ?_
  refine TriE.ret ?_
  have h := Option.some.inj h
  subst h
  exact DoneS.ret (S' := ⟨[(6, eS 3 ePartPromise (a1 ++ ([a2] : List PartPromise))), (7, vi 0)], []⟩) (Sees.trans (Sees.freeze 0 (fr' := [(6, eS 3 ePartPromise (a1 ++ ([a2] : List PartPromise))), (7, vi 0)]) (ob' := [none]) rfl (frz_row ePartPromise_frzE _) (.cons (frz_full rfl) (.cons (.refl _) .nil)) rfl) (sc [] (by decide) (by kernel_rfl) ObRen.nil rfl rfl)) rfl rfl
theorem restore_CheckPromises_ok (n : Nat) (a0 : List Stocked) (a1 : List PartPromise) (r : Int) (h : restore_CheckPromises n a0 a1 = some r) : FnL Tryz.prog 49 [eS 3 eStocked a0, eS 3 ePartPromise a1] [] (vi r) [] := by
  dsimp only [restore_CheckPromises] at h
  refine FnL.ofS (ts := [4]) Tryz.call49 Tryz.func49 rfl rfl (Nat.le_of_ble_eq_true rfl) (Nat.le_of_ble_eq_true rfl) (fun j h => absurd h (Nat.not_lt_zero j)) ?_
  refine sr [(0, eS 3 eStocked a0), (1, eS 3 ePartPromise a1)] [] ?_
  refine TriE.seqK h (fun (v2 : Int) => St.mk [(6, vi v2)] []) ?_ ?_
  · rintro v2 h
    refine sr [(4, vi v2)] [] ?_
    refine TriE.ret ?_
    have h := Option.some.inj h
    subst h
    exact DoneS.ret (S' := ⟨[(4, vi v2)], []⟩) Sees.refl rfl rfl
  intro k1 h
  refine TriE.regJ ?_
  refine rn 2 [(8, eS 3 eStocked a0), (9, eS 3 ePartPromise a1)] [] ?_
  obtain ⟨y1, hy1, h⟩ := bind_some h
  rcases y1 with y1 | y1
  · dsimp only at h
    refine RegJ.op (Op1.call (y' := .tup [.p (.pointer none), vi y1]) (obx := []) (oby := []) (ob2 := []) _ _ (cy (I0 10 (.call 107 [(.t 8), (.t 9)]))) rfl (restore_shelfOf_ok n a0 a1 (Sum.inl y1) hy1) [] (by kernel_rfl) (.cons rfl (.cons rfl (.cons rfl .nil))) (by kernel_rfl) (by kernel_rfl) ObsRen.nil (by kernel_rfl) ObsRen.nil (by kernel_rfl)) ?_
    refine jq 5 [(6, vi y1)] [] ?_
    exact Vs.intro Sees.refl ⟨y1, rfl, h⟩
  dsimp only at h
  refine RegJ.op (Op1.call (y' := .tup [.ptr 0 0 0, vi 0]) (obx := []) (oby := [some (.row 2 [.agg [eS 3 eStocked a0, .own 1 0 y1.length]]), some (.row 1 (List.map vi y1))]) (ob2 := [some (.row 2 [.agg [eS 3 eStocked a0, .own 1 0 y1.length]]), some (.row 1 (List.map vi y1))]) _ _ (cy (I0 10 (.call 107 [(.t 8), (.t 9)]))) rfl (restore_shelfOf_ok n a0 a1 (Sum.inr y1) hy1) [] (by kernel_rfl) (.cons rfl (.cons rfl (.cons rfl .nil))) (by kernel_rfl) (by kernel_rfl) ObsRen.nil (by kernel_rfl) (.cons rfl (.same (row_ren vi_frz _ _ _) .nil)) (by kernel_rfl)) ?_
  refine jq 5 [(6, vi 0)] [some (.row 2 [.agg [eS 3 eStocked a0, .own 1 0 y1.length]]), some (.row 1 (List.map vi y1))] ?_
  exact Vs.intro (sc [] (by decide) (by kernel_rfl) ObRen.nil rfl rfl) ⟨0, rfl, h⟩
theorem agraffelaw08_samePromises_ok (n : Nat) (a0 : List PartPromise) (a1 : List PartPromise) (r : Bool) (h : agraffelaw08_samePromises n a0 a1 = some r) : FnL Tryz.prog 50 [eS 3 ePartPromise a0, eS 3 ePartPromise a1] [] (vb r) [] := by
  dsimp only [agraffelaw08_samePromises] at h
  refine FnL.ofS (ts := [4]) Tryz.call50 Tryz.func50 rfl rfl (Nat.le_of_ble_eq_true rfl) (Nat.le_of_ble_eq_true rfl) (fun j h => absurd h (Nat.not_lt_zero j)) ?_
  refine sr [(0, eS 3 ePartPromise a0), (1, eS 3 ePartPromise a1)] [] ?_
  refine TriE.seq ?_
  refine sj ?_
  refine rn 1 [(0, eS 3 ePartPromise a0), (1, eS 3 ePartPromise a1), (6, eS 3 ePartPromise a0)] [] ?_
  refine jv (vi (a0.length : Int)) (cy (I0 7 (.len 0 (.t 6)))) (ok_len_m rfl) rfl ?_
  refine rn 1 [(0, eS 3 ePartPromise a0), (1, eS 3 ePartPromise a1), (7, vi (a0.length : Int)), (8, eS 3 ePartPromise a1)] [] ?_
  refine jv (vi (a1.length : Int)) (cy (I0 9 (.len 0 (.t 8)))) (ok_len_m rfl) rfl ?_
  refine jv (vb (!decide (a0.length = a1.length))) (cy (I0 10 (.bin .neq false (.t 7) (.t 9)))) (n_neq (i := a0.length) (j := a1.length) rfl rfl) rfl ?_
  refine jp [(0, eS 3 ePartPromise a0), (1, eS 3 ePartPromise a1), (10, vb (!decide (a0.length = a1.length)))] ?_
  refine TriE.cond (b := !decide (a0.length = a1.length)) rfl (fun c1 => ?_) (fun c1 => ?_)
  · have h := cond_t h c1
    refine sr [(4, vb false)] [] ?_
    refine TriE.ret ?_
    have h := Option.some.inj h
    subst h
    exact DoneS.ret (S' := ⟨[(4, vb false)], []⟩) Sees.refl rfl rfl
  have h := cond_f h c1
  refine TriE.skip ?_
  refine TriE.seqK h (fun (_ : Unit) => St.mk [] []) ?_ ?_
  · rintro ⟨⟩ h
    refine sr [(4, vb true)] [] ?_
    refine TriE.ret ?_
    have h := Option.some.inj h
    subst h
    exact DoneS.ret (S' := ⟨[(4, vb true)], []⟩) Sees.refl rfl rfl
  intro k1 h
  refine sr [(0, eS 3 ePartPromise a0), (1, eS 3 ePartPromise a1), (5, vi 0)] [] ?_
  refine TriE.block ?_
  refine TriE.sees (S' := ⟨[(0, eS 3 ePartPromise a0), (1, eS 3 ePartPromise a1), (5, vi 0)], []⟩) sy ?_
  refine TriE.loopN h (fun (v1 : Nat) => St.mk [(0, eS 3 ePartPromise a0), (1, eS 3 ePartPromise a1), (5, vi v1)] []) rfl ?_
  clear h
  rintro back v1 h
  dsimp only [agraffelaw08_samePromises_L1] at h
  refine TriE.seq ?_
  refine sj ?_
  refine rn 2 [(0, eS 3 ePartPromise a0), (1, eS 3 ePartPromise a1), (5, vi v1), (11, vi v1), (12, eS 3 ePartPromise a0)] [] ?_
  refine jv (vi (a0.length : Int)) (cy (I0 13 (.len 0 (.t 12)))) (ok_len_m rfl) rfl ?_
  refine jv (vb (decide (v1 < a0.length))) (cy (I0 14 (.bin .lss false (.t 11) (.t 13)))) (n_lss (i := v1) (j := a0.length) rfl rfl) rfl ?_
  refine jp [(0, eS 3 ePartPromise a0), (1, eS 3 ePartPromise a1), (5, vi v1), (14, vb (decide (v1 < a0.length)))] ?_
  refine TriE.cond (b := decide (v1 < a0.length)) rfl (fun c2 => ?_) (fun c2 => ?_)
  · have h := cond_t h c2
    refine TriE.skip ?_
    refine TriE.seq ?_
    refine TriE.block ?_
    refine TriE.seq ?_
    refine TriE.sees (Sees.less (fr' := [(0, eS 3 ePartPromise a0), (1, eS 3 ePartPromise a1), (5, vi v1)]) (.cons rfl (.cons rfl (.cons rfl .nil)))) ?_
    refine TriE.draw (by kernel_rfl) ?_
    refine RegD.run 2 [(18, vi v1), (17, eS 3 ePartPromise a0), (0, eS 3 ePartPromise a0), (1, eS 3 ePartPromise a1), (5, vi v1)] [none, none] (by kernel_rfl) ?_
    refine dv (.fptr 3 (List.map ePartPromise a0) v1 0) (cy (I0 19 (.iaddr 3 (.t 17) (.t 18)))) (ok_iaddr_m (j := v1) rfl rfl rfl c2) rfl ?_
    refine dv (.agg [vt ((ix a0 v1).Instrument), vt ((ix a0 v1).Part), vi ((ix a0 v1).Count)]) (cy (I0 20 (.load true 3 (.t 19)))) (ok_load_fm (v := .agg [vt ((ix a0 v1).Instrument), vt ((ix a0 v1).Part), vi ((ix a0 v1).Count)]) rfl c2 rfl) rfl ?_
    refine RegD.run 2 [(22, vi v1), (21, eS 3 ePartPromise a1), (20, .agg [vt ((ix a0 v1).Instrument), vt ((ix a0 v1).Part), vi ((ix a0 v1).Count)]), (19, .fptr 3 (List.map ePartPromise a0) v1 0), (18, vi v1), (17, eS 3 ePartPromise a0), (0, eS 3 ePartPromise a0), (1, eS 3 ePartPromise a1), (5, vi v1)] [none, none, none, none, none, none] (by kernel_rfl) ?_
    obtain ⟨c3, h⟩ := chk_some h
    refine dv (.fptr 3 (List.map ePartPromise a1) v1 0) (cy (I0 23 (.iaddr 3 (.t 21) (.t 22)))) (ok_iaddr_m (j := v1) rfl rfl rfl c3) rfl ?_
    refine dv (.agg [vt ((ix a1 v1).Instrument), vt ((ix a1 v1).Part), vi ((ix a1 v1).Count)]) (cy (I0 24 (.load true 3 (.t 23)))) (ok_load_fm (v := .agg [vt ((ix a1 v1).Instrument), vt ((ix a1 v1).Part), vi ((ix a1 v1).Count)]) rfl c3 rfl) rfl ?_
    refine RegD.op (OpD.aggeq (cs := [vt ((ix a0 v1).Instrument), vt ((ix a0 v1).Part), vi ((ix a0 v1).Count)]) (ds := [vt ((ix a1 v1).Instrument), vt ((ix a1 v1).Part), vi ((ix a1 v1).Count)]) (b := (((ix a0 v1).Instrument) == ((ix a1 v1).Instrument)) && ((((ix a0 v1).Part) == ((ix a1 v1).Part)) && ((((ix a0 v1).Count) == ((ix a1 v1).Count)) && true))) true (cy (I0 25 (.bin .neq false (.t 20) (.t 24)))) rfl rfl rfl (by kernel_rfl) (.cons rfl (.cons rfl .nil))) ?_
    refine RegD.done rfl (by kernel_rfl) (S' := ⟨[(0, eS 3 ePartPromise a0), (1, eS 3 ePartPromise a1), (5, vi v1), (25, vb (!((((ix a0 v1).Instrument) == ((ix a1 v1).Instrument)) && ((((ix a0 v1).Part) == ((ix a1 v1).Part)) && ((((ix a0 v1).Count) == ((ix a1 v1).Count)) && true)))))], []⟩) (sc [] (by decide) (by kernel_rfl) ObRen.nil rfl rfl) ?_
    refine TriE.cond (b := (!((((ix a0 v1).Instrument) == ((ix a1 v1).Instrument)) && ((((ix a0 v1).Part) == ((ix a1 v1).Part)) && ((((ix a0 v1).Count) == ((ix a1 v1).Count)) && true))))) rfl (fun c4 => ?_) (fun c4 => ?_)
    · have h := cond_t h c4
      refine sr [(4, vb false)] [] ?_
      refine TriE.ret ?_
      have h := Option.some.inj h
      subst h
      exact DoneS.ret (S' := ⟨[(4, vb false)], []⟩) Sees.refl rfl rfl
    have h := cond_f h c4
    refine TriE.skip ?_
    refine TriE.regJ ?_
    refine rn 1 [(0, eS 3 ePartPromise a0), (1, eS 3 ePartPromise a1), (15, vi v1)] [] ?_
    obtain ⟨c5, h⟩ := chk_some h
    refine jv (vi ((v1 + 1 : Nat) : Int)) (cy (I0 16 (.bin .add false (.t 15) (.c (.p (.int .i64 1)))))) (r_addn (i := v1) (j := 1) rfl rfl c5) rfl ?_
    refine jq 1 [(0, eS 3 ePartPromise a0), (1, eS 3 ePartPromise a1), (5, vi ((v1 + 1 : Nat) : Int))] [] ?_
    exact Vs.intro sy ⟨(v1 + 1), rfl, h⟩
  have h := cond_f h c2
  refine TriE.exit ?_
  exact Vs.intro sy ⟨(), rfl, h⟩
theorem agrafferef08_LeftOf_ok (n : Nat) (a0 : List Stocked) (a1 : List PartPromise) (r : (List PartCount)) (h : agrafferef08_LeftOf n a0 a1 = some r) : FnL Tryz.prog 51 [eS 3 eStocked a0, eS 3 ePartPromise a1] [] (eS 2 ePartCount r) [] := by
  dsimp only [agrafferef08_LeftOf] at h
  refine FnL.ofS (ts := [4]) Tryz.call51 Tryz.func51 rfl rfl (Nat.le_of_ble_eq_true rfl) (Nat.le_of_ble_eq_true rfl) (fun j h => absurd h (Nat.not_lt_zero j)) ?_
  refine sr [(0, eS 3 eStocked a0), (1, eS 3 ePartPromise a1)] [] ?_
  refine sr [(0, eS 3 eStocked a0), (1, eS 3 ePartPromise a1), (5, .emp)] [] ?_
  refine TriE.seqK h (fun (v5 : (List PartCount)) => St.mk [(5, .own 0 0 v5.length)] [some (.row 2 (List.map ePartCount v5))]) ?_ ?_
  · rintro v5 h
    refine sr [(4, .own 0 0 v5.length)] [some (.row 2 (List.map ePartCount v5))] ?_
    refine TriE.ret ?_
    have h := Option.some.inj h
    subst h
    exact DoneS.ret (S' := ⟨[(4, eS 2 ePartCount v5)], []⟩) (Sees.trans (Sees.freeze 0 (fr' := [(4, eS 2 ePartCount v5)]) (ob' := [none]) rfl (frz_row ePartCount_frzE _) (.cons (frz_full rfl) .nil) rfl) (sc [] (by decide) (by kernel_rfl) ObRen.nil rfl rfl)) rfl rfl
  intro k1 h
  refine sr [(0, eS 3 eStocked a0), (1, eS 3 ePartPromise a1), (5, .emp), (6, vi 0)] [] ?_
  refine TriE.block ?_
  refine TriE.sees (S' := ⟨[(0, eS 3 eStocked a0), (1, eS 3 ePartPromise a1), (5, .own 0 0 ([] : List PartCount).length), (6, vi 0)], [some (.row 2 (List.map ePartCount ([] : List PartCount)))]⟩) (Sees.trans (Sees.co (fr' := [(0, eS 3 eStocked a0), (1, eS 3 ePartPromise a1), (5, .own 0 0 0), (6, vi 0)]) (ob' := []) (.cons .same (.cons .same (.cons .own (.cons .same .nil)))) ObCo.nil 2) sy) ?_
  refine TriE.loopN h (fun (t : (List PartCount) × Nat) => match t with | (v2, v3) => St.mk [(0, eS 3 eStocked a0), (1, eS 3 ePartPromise a1), (5, .own 0 0 v2.length), (6, vi v3)] [some (.row 2 (List.map ePartCount v2))]) rfl ?_
  clear h
  rintro back ⟨v2, v3⟩ h
  dsimp only [agrafferef08_LeftOf_L1] at h
  refine TriE.seq ?_
  refine sj ?_
  refine rn 2 [(0, eS 3 eStocked a0), (1, eS 3 ePartPromise a1), (5, .own 0 0 v2.length), (6, vi v3), (7, vi v3), (8, eS 3 eStocked a0)] [some (.row 2 (List.map ePartCount v2))] ?_
  refine jv (vi (a0.length : Int)) (cy (I0 9 (.len 0 (.t 8)))) (ok_len_m rfl) rfl ?_
  refine jv (vb (decide (v3 < a0.length))) (cy (I0 10 (.bin .lss false (.t 7) (.t 9)))) (n_lss (i := v3) (j := a0.length) rfl rfl) rfl ?_
  refine jp [(0, eS 3 eStocked a0), (1, eS 3 ePartPromise a1), (5, .own 0 0 v2.length), (6, vi v3), (10, vb (decide (v3 < a0.length)))] ?_
  refine TriE.cond (b := decide (v3 < a0.length)) rfl (fun c1 => ?_) (fun c1 => ?_)
  · have h := cond_t h c1
    refine TriE.skip ?_
    refine TriE.seq ?_
    refine TriE.block ?_
    refine TriE.sees (Sees.less (fr' := [(0, eS 3 eStocked a0), (1, eS 3 ePartPromise a1), (5, .own 0 0 v2.length), (6, vi v3)]) (.cons rfl (.cons rfl (.cons rfl (.cons rfl .nil))))) ?_
    refine TriE.draw (by kernel_rfl) ?_
    refine RegD.run 3 [(15, vi v3), (14, eS 3 eStocked a0), (13, .own 0 0 v2.length), (0, eS 3 eStocked a0), (1, eS 3 ePartPromise a1), (5, .own 0 0 v2.length), (6, vi v3)] [some (.row 2 (List.map ePartCount v2)), none, none, none] (by kernel_rfl) ?_
    refine dv (.fptr 3 (List.map eStocked a0) v3 0) (cy (I0 16 (.iaddr 3 (.t 14) (.t 15)))) (ok_iaddr_m (j := v3) rfl rfl rfl c1) rfl ?_
    refine RegD.run 1 [(17, .fptr 3 (List.map eStocked a0) v3 0), (16, .fptr 3 (List.map eStocked a0) v3 0), (15, vi v3), (14, eS 3 eStocked a0), (13, .own 0 0 v2.length), (0, eS 3 eStocked a0), (1, eS 3 ePartPromise a1), (5, .own 0 0 v2.length), (6, vi v3)] [some (.row 2 (List.map ePartCount v2)), none, none, none, none, none] (by kernel_rfl) ?_
    refine dv (vt ((ix a0 v3).Part)) (cy (I0 18 (.load false 1 (.t 17)))) (ok_load_fm (v := vt ((ix a0 v3).Part)) rfl c1 rfl) rfl ?_
    refine RegD.run 2 [(20, vi v3), (19, eS 3 eStocked a0), (18, vt ((ix a0 v3).Part)), (17, .fptr 3 (List.map eStocked a0) v3 0), (16, .fptr 3 (List.map eStocked a0) v3 0), (15, vi v3), (14, eS 3 eStocked a0), (13, .own 0 0 v2.length), (0, eS 3 eStocked a0), (1, eS 3 ePartPromise a1), (5, .own 0 0 v2.length), (6, vi v3)] [some (.row 2 (List.map ePartCount v2)), none, none, none, none, none, none, none, none] (by kernel_rfl) ?_
    refine dv (.fptr 3 (List.map eStocked a0) v3 0) (cy (I0 21 (.iaddr 3 (.t 19) (.t 20)))) (ok_iaddr_m (j := v3) rfl rfl rfl c1) rfl ?_
    refine RegD.run 1 [(22, .fptr 3 (List.map eStocked a0) v3 2), (21, .fptr 3 (List.map eStocked a0) v3 0), (20, vi v3), (19, eS 3 eStocked a0), (18, vt ((ix a0 v3).Part)), (17, .fptr 3 (List.map eStocked a0) v3 0), (16, .fptr 3 (List.map eStocked a0) v3 0), (15, vi v3), (14, eS 3 eStocked a0), (13, .own 0 0 v2.length), (0, eS 3 eStocked a0), (1, eS 3 ePartPromise a1), (5, .own 0 0 v2.length), (6, vi v3)] [some (.row 2 (List.map ePartCount v2)), none, none, none, none, none, none, none, none, none, none] (by kernel_rfl) ?_
    refine dv (vi ((ix a0 v3).Count)) (cy (I0 23 (.load false 1 (.t 22)))) (ok_load_fm (v := vi ((ix a0 v3).Count)) rfl c1 rfl) rfl ?_
    refine RegD.run 3 [(26, vi v3), (25, eS 3 eStocked a0), (24, eS 3 ePartPromise a1), (23, vi ((ix a0 v3).Count)), (22, .fptr 3 (List.map eStocked a0) v3 2), (21, .fptr 3 (List.map eStocked a0) v3 0), (20, vi v3), (19, eS 3 eStocked a0), (18, vt ((ix a0 v3).Part)), (17, .fptr 3 (List.map eStocked a0) v3 0), (16, .fptr 3 (List.map eStocked a0) v3 0), (15, vi v3), (14, eS 3 eStocked a0), (13, .own 0 0 v2.length), (0, eS 3 eStocked a0), (1, eS 3 ePartPromise a1), (5, .own 0 0 v2.length), (6, vi v3)] [some (.row 2 (List.map ePartCount v2)), none, none, none, none, none, none, none, none, none, none, none, none, none, none] (by kernel_rfl) ?_
    refine dv (.fptr 3 (List.map eStocked a0) v3 0) (cy (I0 27 (.iaddr 3 (.t 25) (.t 26)))) (ok_iaddr_m (j := v3) rfl rfl rfl c1) rfl ?_
    refine RegD.run 1 [(28, .fptr 3 (List.map eStocked a0) v3 0), (27, .fptr 3 (List.map eStocked a0) v3 0), (26, vi v3), (25, eS 3 eStocked a0), (24, eS 3 ePartPromise a1), (23, vi ((ix a0 v3).Count)), (22, .fptr 3 (List.map eStocked a0) v3 2), (21, .fptr 3 (List.map eStocked a0) v3 0), (20, vi v3), (19, eS 3 eStocked a0), (18, vt ((ix a0 v3).Part)), (17, .fptr 3 (List.map eStocked a0) v3 0), (16, .fptr 3 (List.map eStocked a0) v3 0), (15, vi v3), (14, eS 3 eStocked a0), (13, .own 0 0 v2.length), (0, eS 3 eStocked a0), (1, eS 3 ePartPromise a1), (5, .own 0 0 v2.length), (6, vi v3)] [some (.row 2 (List.map ePartCount v2)), none, none, none, none, none, none, none, none, none, none, none, none, none, none, none, none] (by kernel_rfl) ?_
    refine dv (vt ((ix a0 v3).Part)) (cy (I0 29 (.load false 1 (.t 28)))) (ok_load_fm (v := vt ((ix a0 v3).Part)) rfl c1 rfl) rfl ?_
    obtain ⟨y4, hy4, h⟩ := bind_some h
    refine RegD.op (OpD.call (y' := vi y4) (obx := []) (oby := []) (ob2 := [some (.row 2 (List.map ePartCount v2)), none, none, none, none, none, none, none, none, none, none, none, none, none, none, none, none, none, none]) (tch := []) 0 _ _ (cy (I0 30 (.call 109 [(.t 24), (.t 29)]))) (agrafferef08_promised_ok n a1 ((ix a0 v3).Part) y4 hy4) [] (by kernel_rfl) (.cons rfl (.cons rfl (.cons rfl .nil))) (by kernel_rfl) (by kernel_rfl) ObsRen.nil (by kernel_rfl) ObsRen.nil (by kernel_rfl) rfl (.inr ⟨rfl, rfl⟩)) ?_
    obtain ⟨c2, h⟩ := chk_some h
    refine dv (vi (((ix a0 v3).Count) - y4)) (cy (I0 31 (.bin .sub false (.t 23) (.t 30)))) (r_sub rfl rfl c2) rfl ?_
    refine RegD.run 2 [(33, .own 21 0 1), (32, .agg [vt ((ix a0 v3).Part), vi (((ix a0 v3).Count) - y4)]), (31, vi (((ix a0 v3).Count) - y4)), (30, vi y4), (29, vt ((ix a0 v3).Part)), (28, .fptr 3 (List.map eStocked a0) v3 0), (27, .fptr 3 (List.map eStocked a0) v3 0), (26, vi v3), (25, eS 3 eStocked a0), (24, eS 3 ePartPromise a1), (23, vi ((ix a0 v3).Count)), (22, .fptr 3 (List.map eStocked a0) v3 2), (21, .fptr 3 (List.map eStocked a0) v3 0), (20, vi v3), (19, eS 3 eStocked a0), (18, vt ((ix a0 v3).Part)), (17, .fptr 3 (List.map eStocked a0) v3 0), (16, .fptr 3 (List.map eStocked a0) v3 0), (15, vi v3), (14, eS 3 eStocked a0), (13, .own 0 0 v2.length), (0, eS 3 eStocked a0), (1, eS 3 ePartPromise a1), (5, .own 0 0 v2.length), (6, vi v3)] [some (.row 2 (List.map ePartCount v2)), none, none, none, none, none, none, none, none, none, none, none, none, none, none, none, none, none, none, none, none, some (.row 2 [.agg [vt ((ix a0 v3).Part), vi (((ix a0 v3).Count) - y4)]])] (by kernel_rfl) ?_
    obtain ⟨c3, h⟩ := chk_some h
    refine de (.own 22 0 ((v2 ++ ([(PartCount.mk ((ix a0 v3).Part) (((ix a0 v3).Count) - y4))] : List PartCount)).length)) [none, none, none, none, none, none, none, none, none, none, none, none, none, none, none, none, none, none, none, none, none, some (.row 2 [.agg [vt ((ix a0 v3).Part), vi (((ix a0 v3).Count) - y4)]]), some (.row 2 (List.map ePartCount (v2 ++ ([(PartCount.mk ((ix a0 v3).Part) (((ix a0 v3).Count) - y4))] : List PartCount))))] (cy (I0 34 (.app 2 24 (.t 13) (.t 33)))) (ok_app_own (l := v2) (l2 := ([(PartCount.mk ((ix a0 v3).Part) (((ix a0 v3).Count) - y4))] : List PartCount)) (e := ePartCount) (u := .own 21 0 1) rfl rfl rfl rfl rfl c3) rfl rfl rfl ?_
    refine RegD.run 1 [(5, .own 22 0 ((v2 ++ ([(PartCount.mk ((ix a0 v3).Part) (((ix a0 v3).Count) - y4))] : List PartCount)).length)), (34, .own 22 0 ((v2 ++ ([(PartCount.mk ((ix a0 v3).Part) (((ix a0 v3).Count) - y4))] : List PartCount)).length)), (33, .own 21 0 1), (32, .agg [vt ((ix a0 v3).Part), vi (((ix a0 v3).Count) - y4)]), (31, vi (((ix a0 v3).Count) - y4)), (30, vi y4), (29, vt ((ix a0 v3).Part)), (28, .fptr 3 (List.map eStocked a0) v3 0), (27, .fptr 3 (List.map eStocked a0) v3 0), (26, vi v3), (25, eS 3 eStocked a0), (24, eS 3 ePartPromise a1), (23, vi ((ix a0 v3).Count)), (22, .fptr 3 (List.map eStocked a0) v3 2), (21, .fptr 3 (List.map eStocked a0) v3 0), (20, vi v3), (19, eS 3 eStocked a0), (18, vt ((ix a0 v3).Part)), (17, .fptr 3 (List.map eStocked a0) v3 0), (16, .fptr 3 (List.map eStocked a0) v3 0), (15, vi v3), (14, eS 3 eStocked a0), (13, .own 0 0 v2.length), (0, eS 3 eStocked a0), (1, eS 3 ePartPromise a1), (5, .own 0 0 v2.length), (6, vi v3)] [none, none, none, none, none, none, none, none, none, none, none, none, none, none, none, none, none, none, none, none, none, some (.row 2 [.agg [vt ((ix a0 v3).Part), vi (((ix a0 v3).Count) - y4)]]), some (.row 2 (List.map ePartCount (v2 ++ ([(PartCount.mk ((ix a0 v3).Part) (((ix a0 v3).Count) - y4))] : List PartCount)))), none] (by kernel_rfl) ?_
    refine RegD.done rfl (by kernel_rfl) (S' := ⟨[(0, eS 3 eStocked a0), (1, eS 3 ePartPromise a1), (6, vi v3), (5, .own 0 0 ((v2 ++ ([(PartCount.mk ((ix a0 v3).Part) (((ix a0 v3).Count) - y4))] : List PartCount)).length))], [some (.row 2 (List.map ePartCount (v2 ++ ([(PartCount.mk ((ix a0 v3).Part) (((ix a0 v3).Count) - y4))] : List PartCount))))]⟩) (sc [22] (by decide) (by kernel_rfl) (obRen_row ePartCount_frz rfl .nil) rfl rfl) ?_
    refine TriE.regJ ?_
    refine rn 1 [(0, eS 3 eStocked a0), (1, eS 3 ePartPromise a1), (5, .own 0 0 ((v2 ++ ([(PartCount.mk ((ix a0 v3).Part) (((ix a0 v3).Count) - y4))] : List PartCount)).length)), (11, vi v3)] [some (.row 2 (List.map ePartCount (v2 ++ ([(PartCount.mk ((ix a0 v3).Part) (((ix a0 v3).Count) - y4))] : List PartCount))))] ?_
    obtain ⟨c4, h⟩ := chk_some h
    refine jv (vi ((v3 + 1 : Nat) : Int)) (cy (I0 12 (.bin .add false (.t 11) (.c (.p (.int .i64 1)))))) (r_addn (i := v3) (j := 1) rfl rfl c4) rfl ?_
    refine jq 1 [(0, eS 3 eStocked a0), (1, eS 3 ePartPromise a1), (5, .own 0 0 ((v2 ++ ([(PartCount.mk ((ix a0 v3).Part) (((ix a0 v3).Count) - y4))] : List PartCount)).length)), (6, vi ((v3 + 1 : Nat) : Int))] [some (.row 2 (List.map ePartCount (v2 ++ ([(PartCount.mk ((ix a0 v3).Part) (((ix a0 v3).Count) - y4))] : List PartCount))))] ?_
    exact Vs.intro sy ⟨((v2 ++ ([(PartCount.mk ((ix a0 v3).Part) (((ix a0 v3).Count) - y4))] : List PartCount)), v3 + 1), rfl, h⟩
  have h := cond_f h c1
  refine TriE.exit ?_
  exact Vs.intro sy ⟨v2, rfl, h⟩
theorem agraffelaw08_sameCounts_ok (n : Nat) (a0 : List PartCount) (a1 : List PartCount) (r : Bool) (h : agraffelaw08_sameCounts n a0 a1 = some r) : FnL Tryz.prog 45 [eS 2 ePartCount a0, eS 2 ePartCount a1] [] (vb r) [] := by
  dsimp only [agraffelaw08_sameCounts] at h
  refine FnL.ofS (ts := [4]) Tryz.call45 Tryz.func45 rfl rfl (Nat.le_of_ble_eq_true rfl) (Nat.le_of_ble_eq_true rfl) (fun j h => absurd h (Nat.not_lt_zero j)) ?_
  refine sr [(0, eS 2 ePartCount a0), (1, eS 2 ePartCount a1)] [] ?_
  refine TriE.seq ?_
  refine sj ?_
  refine rn 1 [(0, eS 2 ePartCount a0), (1, eS 2 ePartCount a1), (6, eS 2 ePartCount a0)] [] ?_
  refine jv (vi (a0.length : Int)) (cy (I0 7 (.len 0 (.t 6)))) (ok_len_m rfl) rfl ?_
  refine rn 1 [(0, eS 2 ePartCount a0), (1, eS 2 ePartCount a1), (7, vi (a0.length : Int)), (8, eS 2 ePartCount a1)] [] ?_
  refine jv (vi (a1.length : Int)) (cy (I0 9 (.len 0 (.t 8)))) (ok_len_m rfl) rfl ?_
  refine jv (vb (!decide (a0.length = a1.length))) (cy (I0 10 (.bin .neq false (.t 7) (.t 9)))) (n_neq (i := a0.length) (j := a1.length) rfl rfl) rfl ?_
  refine jp [(0, eS 2 ePartCount a0), (1, eS 2 ePartCount a1), (10, vb (!decide (a0.length = a1.length)))] ?_
  refine TriE.cond (b := !decide (a0.length = a1.length)) rfl (fun c1 => ?_) (fun c1 => ?_)
  · have h := cond_t h c1
    refine sr [(4, vb false)] [] ?_
    refine TriE.ret ?_
    have h := Option.some.inj h
    subst h
    exact DoneS.ret (S' := ⟨[(4, vb false)], []⟩) Sees.refl rfl rfl
  have h := cond_f h c1
  refine TriE.skip ?_
  refine TriE.seqK h (fun (_ : Unit) => St.mk [] []) ?_ ?_
  · rintro ⟨⟩ h
    refine sr [(4, vb true)] [] ?_
    refine TriE.ret ?_
    have h := Option.some.inj h
    subst h
    exact DoneS.ret (S' := ⟨[(4, vb true)], []⟩) Sees.refl rfl rfl
  intro k1 h
  refine sr [(0, eS 2 ePartCount a0), (1, eS 2 ePartCount a1), (5, vi 0)] [] ?_
  refine TriE.block ?_
  refine TriE.sees (S' := ⟨[(0, eS 2 ePartCount a0), (1, eS 2 ePartCount a1), (5, vi 0)], []⟩) sy ?_
  refine TriE.loopN h (fun (v1 : Nat) => St.mk [(0, eS 2 ePartCount a0), (1, eS 2 ePartCount a1), (5, vi v1)] []) rfl ?_
  clear h
  rintro back v1 h
  dsimp only [agraffelaw08_sameCounts_L1] at h
  refine TriE.seq ?_
  refine sj ?_
  refine rn 2 [(0, eS 2 ePartCount a0), (1, eS 2 ePartCount a1), (5, vi v1), (11, vi v1), (12, eS 2 ePartCount a0)] [] ?_
  refine jv (vi (a0.length : Int)) (cy (I0 13 (.len 0 (.t 12)))) (ok_len_m rfl) rfl ?_
  refine jv (vb (decide (v1 < a0.length))) (cy (I0 14 (.bin .lss false (.t 11) (.t 13)))) (n_lss (i := v1) (j := a0.length) rfl rfl) rfl ?_
  refine jp [(0, eS 2 ePartCount a0), (1, eS 2 ePartCount a1), (5, vi v1), (14, vb (decide (v1 < a0.length)))] ?_
  refine TriE.cond (b := decide (v1 < a0.length)) rfl (fun c2 => ?_) (fun c2 => ?_)
  · have h := cond_t h c2
    refine TriE.skip ?_
    refine TriE.seq ?_
    refine TriE.block ?_
    refine TriE.seq ?_
    refine TriE.sees (Sees.less (fr' := [(0, eS 2 ePartCount a0), (1, eS 2 ePartCount a1), (5, vi v1)]) (.cons rfl (.cons rfl (.cons rfl .nil)))) ?_
    refine TriE.draw (by kernel_rfl) ?_
    refine RegD.run 2 [(18, vi v1), (17, eS 2 ePartCount a0), (0, eS 2 ePartCount a0), (1, eS 2 ePartCount a1), (5, vi v1)] [none, none] (by kernel_rfl) ?_
    refine dv (.fptr 2 (List.map ePartCount a0) v1 0) (cy (I0 19 (.iaddr 2 (.t 17) (.t 18)))) (ok_iaddr_m (j := v1) rfl rfl rfl c2) rfl ?_
    refine dv (.agg [vt ((ix a0 v1).Part), vi ((ix a0 v1).Count)]) (cy (I0 20 (.load true 2 (.t 19)))) (ok_load_fm (v := .agg [vt ((ix a0 v1).Part), vi ((ix a0 v1).Count)]) rfl c2 rfl) rfl ?_
    refine RegD.run 2 [(22, vi v1), (21, eS 2 ePartCount a1), (20, .agg [vt ((ix a0 v1).Part), vi ((ix a0 v1).Count)]), (19, .fptr 2 (List.map ePartCount a0) v1 0), (18, vi v1), (17, eS 2 ePartCount a0), (0, eS 2 ePartCount a0), (1, eS 2 ePartCount a1), (5, vi v1)] [none, none, none, none, none, none] (by kernel_rfl) ?_
    obtain ⟨c3, h⟩ := chk_some h
    refine dv (.fptr 2 (List.map ePartCount a1) v1 0) (cy (I0 23 (.iaddr 2 (.t 21) (.t 22)))) (ok_iaddr_m (j := v1) rfl rfl rfl c3) rfl ?_
    refine dv (.agg [vt ((ix a1 v1).Part), vi ((ix a1 v1).Count)]) (cy (I0 24 (.load true 2 (.t 23)))) (ok_load_fm (v := .agg [vt ((ix a1 v1).Part), vi ((ix a1 v1).Count)]) rfl c3 rfl) rfl ?_
    refine RegD.op (OpD.aggeq (cs := [vt ((ix a0 v1).Part), vi ((ix a0 v1).Count)]) (ds := [vt ((ix a1 v1).Part), vi ((ix a1 v1).Count)]) (b := (((ix a0 v1).Part) == ((ix a1 v1).Part)) && ((((ix a0 v1).Count) == ((ix a1 v1).Count)) && true)) true (cy (I0 25 (.bin .neq false (.t 20) (.t 24)))) rfl rfl rfl (by kernel_rfl) (.cons rfl (.cons rfl .nil))) ?_
    refine RegD.done rfl (by kernel_rfl) (S' := ⟨[(0, eS 2 ePartCount a0), (1, eS 2 ePartCount a1), (5, vi v1), (25, vb (!((((ix a0 v1).Part) == ((ix a1 v1).Part)) && ((((ix a0 v1).Count) == ((ix a1 v1).Count)) && true))))], []⟩) (sc [] (by decide) (by kernel_rfl) ObRen.nil rfl rfl) ?_
    refine TriE.cond (b := (!((((ix a0 v1).Part) == ((ix a1 v1).Part)) && ((((ix a0 v1).Count) == ((ix a1 v1).Count)) && true)))) rfl (fun c4 => ?_) (fun c4 => ?_)
    · have h := cond_t h c4
      refine sr [(4, vb false)] [] ?_
      refine TriE.ret ?_
      have h := Option.some.inj h
      subst h
      exact DoneS.ret (S' := ⟨[(4, vb false)], []⟩) Sees.refl rfl rfl
    have h := cond_f h c4
    refine TriE.skip ?_
    refine TriE.regJ ?_
    refine rn 1 [(0, eS 2 ePartCount a0), (1, eS 2 ePartCount a1), (15, vi v1)] [] ?_
    obtain ⟨c5, h⟩ := chk_some h
    refine jv (vi ((v1 + 1 : Nat) : Int)) (cy (I0 16 (.bin .add false (.t 15) (.c (.p (.int .i64 1)))))) (r_addn (i := v1) (j := 1) rfl rfl c5) rfl ?_
    refine jq 1 [(0, eS 2 ePartCount a0), (1, eS 2 ePartCount a1), (5, vi ((v1 + 1 : Nat) : Int))] [] ?_
    exact Vs.intro sy ⟨(v1 + 1), rfl, h⟩
  have h := cond_f h c2
  refine TriE.exit ?_
  exact Vs.intro sy ⟨(), rfl, h⟩
theorem agraffelaw08_RestorePromises_ok (n : Nat) (a0 : List Stocked) (a1 : List PartPromise) (a2 : PartPromise) (r : Bool) (h : agraffelaw08_RestorePromises n a0 a1 a2 = some r) : FnL Tryz.prog 7 [eS 3 eStocked a0, eS 3 ePartPromise a1, .agg [vt a2.Instrument, vt a2.Part, vi a2.Count]] [] (vb r) [] := by
  dsimp only [agraffelaw08_RestorePromises] at h
  refine FnL.ofS (ts := [6]) Tryz.call7 Tryz.func7 rfl rfl (Nat.le_of_ble_eq_true rfl) (Nat.le_of_ble_eq_true rfl) (fun j h => absurd h (Nat.not_lt_zero j)) ?_
  refine sr [(0, eS 3 eStocked a0), (1, eS 3 ePartPromise a1), (5, .ptr 0 0 0)] [some (.row 3 [.agg [vt a2.Instrument, vt a2.Part, vi a2.Count]])] ?_
  refine TriE.seq ?_
  refine sj ?_
  obtain ⟨y1, hy1, h⟩ := bind_some h
  refine RegJ.op (Op1.call (y' := vb y1) (obx := []) (oby := []) (ob2 := [some (.row 3 [.agg [vt a2.Instrument, vt a2.Part, vi a2.Count]])]) _ _ (cy (I0 17 (.call 14 []))) rfl (agraffelaw08_awake_ok n y1 hy1) [] (by kernel_rfl) (.cons rfl .nil) (by kernel_rfl) (by kernel_rfl) ObsRen.nil (by kernel_rfl) ObsRen.nil (by kernel_rfl)) ?_
  refine jq 1 [(0, eS 3 eStocked a0), (1, eS 3 ePartPromise a1), (5, .ptr 0 0 0), (18, vb (!y1))] [some (.row 3 [.agg [vt a2.Instrument, vt a2.Part, vi a2.Count]])] ?_
  refine TriE.cond (b := !y1) rfl (fun c1 => ?_) (fun c1 => ?_)
  · have h := cond_t h c1
    refine sr [(6, vb false)] [some (.row 3 [.agg [vt a2.Instrument, vt a2.Part, vi a2.Count]])] ?_
    refine TriE.ret ?_
    have h := Option.some.inj h
    subst h
    exact DoneS.ret (S' := ⟨[(6, vb false)], []⟩) (sc [] (by decide) (by kernel_rfl) ObRen.nil rfl rfl) rfl rfl
  have h := cond_f h c1
  refine TriE.skip ?_
  refine TriE.seq ?_
  refine TriE.seqK h (fun (v5 : Bool) => St.mk [(0, eS 3 eStocked a0), (1, eS 3 ePartPromise a1), (5, .ptr 0 0 0), (32, vb v5)] [some (.row 3 [.agg [vt a2.Instrument, vt a2.Part, vi a2.Count]])]) ?_ ?_
  · rintro v5 h
    refine TriE.cond (b := v5) rfl (fun c3 => ?_) (fun c3 => ?_)
    · have h := cond_t h c3
      refine sr [(6, vb true)] [some (.row 3 [.agg [vt a2.Instrument, vt a2.Part, vi a2.Count]])] ?_
      refine TriE.ret ?_
      have h := Option.some.inj h
      subst h
      exact DoneS.ret (S' := ⟨[(6, vb true)], []⟩) (sc [] (by decide) (by kernel_rfl) ObRen.nil rfl rfl) rfl rfl
    have h := cond_f h c3
    refine TriE.skip ?_
    refine TriE.seq ?_
    refine TriE.sees (Sees.less (fr' := [(0, eS 3 eStocked a0), (1, eS 3 ePartPromise a1), (5, .ptr 0 0 0)]) (.cons rfl (.cons rfl (.cons rfl .nil)))) ?_
    refine TriE.draw (by kernel_rfl) ?_
    refine RegD.run 1 [(34, eS 3 eStocked a0), (0, eS 3 eStocked a0), (1, eS 3 ePartPromise a1), (5, .ptr 0 0 0)] [some (.row 3 [.agg [vt a2.Instrument, vt a2.Part, vi a2.Count]]), none] (by kernel_rfl) ?_
    obtain ⟨y6, hy6, h⟩ := bind_some h
    refine RegD.op (OpD.call (y' := eS 3 eStocked a0) (obx := []) (oby := []) (ob2 := [some (.row 3 [.agg [vt a2.Instrument, vt a2.Part, vi a2.Count]]), none, none]) (tch := []) 0 _ _ (cy (I0 35 (.call 23 [(.t 34)]))) (agraffelaw08_stock_ok n a0 y6 hy6) [] (by kernel_rfl) (.cons rfl (.cons rfl .nil)) (by kernel_rfl) (by kernel_rfl) ObsRen.nil (by kernel_rfl) ObsRen.nil (by kernel_rfl) rfl (.inr ⟨rfl, rfl⟩)) ?_
    refine RegD.run 1 [(36, eS 3 ePartPromise a1), (35, eS 3 eStocked a0), (34, eS 3 eStocked a0), (0, eS 3 eStocked a0), (1, eS 3 ePartPromise a1), (5, .ptr 0 0 0)] [some (.row 3 [.agg [vt a2.Instrument, vt a2.Part, vi a2.Count]]), none, none, none] (by kernel_rfl) ?_
    obtain ⟨y7, hy7, h⟩ := bind_some h
    refine RegD.op (OpD.call (y' := eS 3 ePartPromise a1) (obx := []) (oby := []) (ob2 := [some (.row 3 [.agg [vt a2.Instrument, vt a2.Part, vi a2.Count]]), none, none, none, none]) (tch := []) 0 _ _ (cy (I0 37 (.call 42 [(.t 36)]))) (agraffelaw08_promises_ok n a1 y7 hy7) [] (by kernel_rfl) (.cons rfl (.cons rfl .nil)) (by kernel_rfl) (by kernel_rfl) ObsRen.nil (by kernel_rfl) ObsRen.nil (by kernel_rfl) rfl (.inr ⟨rfl, rfl⟩)) ?_
    refine RegD.run 1 [(38, .agg [vt a2.Instrument, vt a2.Part, vi a2.Count]), (37, eS 3 ePartPromise a1), (36, eS 3 ePartPromise a1), (35, eS 3 eStocked a0), (34, eS 3 eStocked a0), (0, eS 3 eStocked a0), (1, eS 3 ePartPromise a1), (5, .ptr 0 0 0)] [some (.row 3 [.agg [vt a2.Instrument, vt a2.Part, vi a2.Count]]), none, none, none, none, none] (by kernel_rfl) ?_
    obtain ⟨y8, hy8, h⟩ := bind_some h
    refine RegD.op (OpD.call (y' := .tup [eS 3 ePartPromise y8.2, vi y8.1]) (obx := []) (oby := []) (ob2 := [some (.row 3 [.agg [vt a2.Instrument, vt a2.Part, vi a2.Count]]), none, none, none, none, none, none]) (tch := []) 0 _ _ (cy (I0 39 (.call 46 [(.t 35), (.t 37), (.t 38)]))) (restore_AddPromise_ok n a0 a1 a2 y8 hy8) [] (by kernel_rfl) (.cons rfl (.cons rfl (.cons rfl (.cons rfl .nil)))) (by kernel_rfl) (by kernel_rfl) ObsRen.nil (by kernel_rfl) ObsRen.nil (by kernel_rfl) rfl (.inr ⟨rfl, rfl⟩)) ?_
    refine RegD.run 5 [(8, vi y8.1), (7, eS 3 ePartPromise y8.2), (41, vi y8.1), (40, eS 3 ePartPromise y8.2), (33, .tup [eS 3 ePartPromise y8.2, vi y8.1]), (39, .tup [eS 3 ePartPromise y8.2, vi y8.1]), (38, .agg [vt a2.Instrument, vt a2.Part, vi a2.Count]), (37, eS 3 ePartPromise a1), (36, eS 3 ePartPromise a1), (35, eS 3 eStocked a0), (34, eS 3 eStocked a0), (0, eS 3 eStocked a0), (1, eS 3 ePartPromise a1), (5, .ptr 0 0 0)] [some (.row 3 [.agg [vt a2.Instrument, vt a2.Part, vi a2.Count]]), none, none, none, none, none, none, none, none, none, none, none] (by kernel_rfl) ?_
    refine RegD.done rfl (by kernel_rfl) (S' := ⟨[(0, eS 3 eStocked a0), (1, eS 3 ePartPromise a1), (5, .ptr 0 0 0), (7, eS 3 ePartPromise y8.2), (8, vi y8.1)], [some (.row 3 [.agg [vt a2.Instrument, vt a2.Part, vi a2.Count]])]⟩) (sc [0] (by decide) (by kernel_rfl) (.cons rfl .nil) rfl rfl) ?_
    refine sj ?_
    refine rn 1 [(0, eS 3 eStocked a0), (1, eS 3 ePartPromise a1), (5, .ptr 0 0 0), (7, eS 3 ePartPromise y8.2), (8, vi y8.1), (43, eS 3 eStocked a0)] [some (.row 3 [.agg [vt a2.Instrument, vt a2.Part, vi a2.Count]])] ?_
    obtain ⟨y9, hy9, h⟩ := bind_some h
    refine RegJ.op (Op1.call (y' := eS 3 eStocked a0) (obx := []) (oby := []) (ob2 := [some (.row 3 [.agg [vt a2.Instrument, vt a2.Part, vi a2.Count]])]) _ _ (cy (I0 44 (.call 23 [(.t 43)]))) rfl (agraffelaw08_stock_ok n a0 y9 hy9) [] (by kernel_rfl) (.cons rfl (.cons rfl .nil)) (by kernel_rfl) (by kernel_rfl) ObsRen.nil (by kernel_rfl) ObsRen.nil (by kernel_rfl)) ?_
    refine rn 1 [(0, eS 3 eStocked a0), (1, eS 3 ePartPromise a1), (5, .ptr 0 0 0), (7, eS 3 ePartPromise y8.2), (8, vi y8.1), (44, eS 3 eStocked a0), (45, eS 3 ePartPromise a1)] [some (.row 3 [.agg [vt a2.Instrument, vt a2.Part, vi a2.Count]])] ?_
    obtain ⟨y10, hy10, h⟩ := bind_some h
    refine RegJ.op (Op1.call (y' := eS 3 ePartPromise a1) (obx := []) (oby := []) (ob2 := [some (.row 3 [.agg [vt a2.Instrument, vt a2.Part, vi a2.Count]])]) _ _ (cy (I0 46 (.call 42 [(.t 45)]))) rfl (agraffelaw08_promises_ok n a1 y10 hy10) [] (by kernel_rfl) (.cons rfl (.cons rfl .nil)) (by kernel_rfl) (by kernel_rfl) ObsRen.nil (by kernel_rfl) ObsRen.nil (by kernel_rfl)) ?_
    obtain ⟨y11, hy11, h⟩ := bind_some h
    refine RegJ.op (Op1.call (y' := .tup [eS 2 ePartCount y11.2, vi y11.1]) (obx := []) (oby := []) (ob2 := [some (.row 3 [.agg [vt a2.Instrument, vt a2.Part, vi a2.Count]])]) _ _ (cy (I0 47 (.call 47 [(.t 44), (.t 46)]))) rfl (restore_LeftOf_ok n a0 a1 y11 hy11) [] (by kernel_rfl) (.cons rfl (.cons rfl (.cons rfl .nil))) (by kernel_rfl) (by kernel_rfl) ObsRen.nil (by kernel_rfl) ObsRen.nil (by kernel_rfl)) ?_
    refine jq 5 [(0, eS 3 eStocked a0), (1, eS 3 ePartPromise a1), (5, .ptr 0 0 0), (7, eS 3 ePartPromise y8.2), (8, vi y8.1), (9, eS 2 ePartCount y11.2), (10, vi y11.1)] [some (.row 3 [.agg [vt a2.Instrument, vt a2.Part, vi a2.Count]])] ?_
    refine sj ?_
    refine rn 3 [(0, eS 3 eStocked a0), (1, eS 3 ePartPromise a1), (7, eS 3 ePartPromise y8.2), (8, vi y8.1), (9, eS 2 ePartCount y11.2), (10, vi y11.1), (51, eS 3 eStocked a0), (52, eS 3 ePartPromise a1), (53, .agg [vt a2.Instrument, vt a2.Part, vi a2.Count])] [some (.row 3 [.agg [vt a2.Instrument, vt a2.Part, vi a2.Count]])] ?_
    obtain ⟨y12, hy12, h⟩ := bind_some h
    refine RegJ.op (Op1.call (y' := .tup [eS 3 ePartPromise y12.2, vi y12.1]) (obx := []) (oby := []) (ob2 := [some (.row 3 [.agg [vt a2.Instrument, vt a2.Part, vi a2.Count]])]) _ _ (cy (I0 54 (.call 48 [(.t 51), (.t 52), (.t 53)]))) rfl (agrafferef08_AddPromise_ok n a0 a1 a2 y12 hy12) [] (by kernel_rfl) (.cons rfl (.cons rfl (.cons rfl (.cons rfl .nil)))) (by kernel_rfl) (by kernel_rfl) ObsRen.nil (by kernel_rfl) ObsRen.nil (by kernel_rfl)) ?_
    refine jq 5 [(0, eS 3 eStocked a0), (1, eS 3 ePartPromise a1), (7, eS 3 ePartPromise y8.2), (8, vi y8.1), (9, eS 2 ePartCount y11.2), (10, vi y11.1), (11, eS 3 ePartPromise y12.2), (12, vi y12.1)] [some (.row 3 [.agg [vt a2.Instrument, vt a2.Part, vi a2.Count]])] ?_
    refine sj ?_
    refine rn 2 [(0, eS 3 eStocked a0), (1, eS 3 ePartPromise a1), (7, eS 3 ePartPromise y8.2), (8, vi y8.1), (9, eS 2 ePartCount y11.2), (10, vi y11.1), (11, eS 3 ePartPromise y12.2), (12, vi y12.1), (57, eS 3 eStocked a0), (58, eS 3 ePartPromise a1)] [some (.row 3 [.agg [vt a2.Instrument, vt a2.Part, vi a2.Count]])] ?_
    obtain ⟨y13, hy13, h⟩ := bind_some h
    refine RegJ.op (Op1.call (y' := vi y13) (obx := []) (oby := []) (ob2 := [some (.row 3 [.agg [vt a2.Instrument, vt a2.Part, vi a2.Count]])]) _ _ (cy (I0 59 (.call 43 [(.t 57), (.t 58)]))) rfl (agrafferef08_CheckPromises_ok n a0 a1 y13 hy13) [] (by kernel_rfl) (.cons rfl (.cons rfl (.cons rfl .nil))) (by kernel_rfl) (by kernel_rfl) ObsRen.nil (by kernel_rfl) ObsRen.nil (by kernel_rfl)) ?_
    refine jq 1 [(0, eS 3 eStocked a0), (1, eS 3 ePartPromise a1), (7, eS 3 ePartPromise y8.2), (8, vi y8.1), (9, eS 2 ePartCount y11.2), (10, vi y11.1), (11, eS 3 ePartPromise y12.2), (12, vi y12.1), (13, vi y13)] [some (.row 3 [.agg [vt a2.Instrument, vt a2.Part, vi a2.Count]])] ?_
    refine TriE.seq ?_
    refine sj ?_
    refine rn 1 [(0, eS 3 eStocked a0), (1, eS 3 ePartPromise a1), (7, eS 3 ePartPromise y8.2), (8, vi y8.1), (9, eS 2 ePartCount y11.2), (10, vi y11.1), (11, eS 3 ePartPromise y12.2), (12, vi y12.1), (13, vi y13), (60, eS 3 eStocked a0)] [some (.row 3 [.agg [vt a2.Instrument, vt a2.Part, vi a2.Count]])] ?_
    obtain ⟨y14, hy14, h⟩ := bind_some h
    refine RegJ.op (Op1.call (y' := eS 3 eStocked a0) (obx := []) (oby := []) (ob2 := [some (.row 3 [.agg [vt a2.Instrument, vt a2.Part, vi a2.Count]])]) _ _ (cy (I0 61 (.call 23 [(.t 60)]))) rfl (agraffelaw08_stock_ok n a0 y14 hy14) [] (by kernel_rfl) (.cons rfl (.cons rfl .nil)) (by kernel_rfl) (by kernel_rfl) ObsRen.nil (by kernel_rfl) ObsRen.nil (by kernel_rfl)) ?_
    refine rn 1 [(0, eS 3 eStocked a0), (1, eS 3 ePartPromise a1), (7, eS 3 ePartPromise y8.2), (8, vi y8.1), (9, eS 2 ePartCount y11.2), (10, vi y11.1), (11, eS 3 ePartPromise y12.2), (12, vi y12.1), (13, vi y13), (61, eS 3 eStocked a0), (62, eS 3 ePartPromise a1)] [some (.row 3 [.agg [vt a2.Instrument, vt a2.Part, vi a2.Count]])] ?_
    obtain ⟨y15, hy15, h⟩ := bind_some h
    refine RegJ.op (Op1.call (y' := eS 3 ePartPromise a1) (obx := []) (oby := []) (ob2 := [some (.row 3 [.agg [vt a2.Instrument, vt a2.Part, vi a2.Count]])]) _ _ (cy (I0 63 (.call 42 [(.t 62)]))) rfl (agraffelaw08_promises_ok n a1 y15 hy15) [] (by kernel_rfl) (.cons rfl (.cons rfl .nil)) (by kernel_rfl) (by kernel_rfl) ObsRen.nil (by kernel_rfl) ObsRen.nil (by kernel_rfl)) ?_
    obtain ⟨y16, hy16, h⟩ := bind_some h
    refine RegJ.op (Op1.call (y' := vi y16) (obx := []) (oby := []) (ob2 := [some (.row 3 [.agg [vt a2.Instrument, vt a2.Part, vi a2.Count]])]) _ _ (cy (I0 64 (.call 49 [(.t 61), (.t 63)]))) rfl (restore_CheckPromises_ok n a0 a1 y16 hy16) [] (by kernel_rfl) (.cons rfl (.cons rfl (.cons rfl .nil))) (by kernel_rfl) (by kernel_rfl) ObsRen.nil (by kernel_rfl) ObsRen.nil (by kernel_rfl)) ?_
    refine rn 3 [(0, eS 3 eStocked a0), (1, eS 3 ePartPromise a1), (7, eS 3 ePartPromise y8.2), (8, vi y8.1), (9, eS 2 ePartCount y11.2), (10, vi y11.1), (11, eS 3 ePartPromise y12.2), (12, vi y12.1), (13, vi y13), (67, vb (y16 != y13))] [some (.row 3 [.agg [vt a2.Instrument, vt a2.Part, vi a2.Count]])] ?_
    refine RegJ.op (Op1.valk (v := vi y8.1) _ _ (cy (IG 68 (.mov (.t 8)) 67 false)) rfl (by kernel_rfl) (fun hg => (.cons rfl .nil))) ?_
    refine RegJ.op (Op1.valk (v := vi y12.1) _ _ (cy (IG 69 (.mov (.t 12)) 67 false)) rfl (by kernel_rfl) (fun hg => (.cons rfl .nil))) ?_
    refine RegJ.op (Op1.valk (v := vb (y8.1 != y12.1)) _ _ (cy (IG 70 (.bin .neq false (.t 68) (.t 69)) 67 false)) rfl (by kernel_rfl) (fun hg => (.cons hg (.cons hg .nil)))) ?_
    refine RegJ.op (Op1.or (cy (I0 71 (.pick (.t 67) (.c (.p (.bool true))) (.t 70)))) rfl rfl (by first | exact hokO1 | exact hokO0 | simp)) ?_
    refine rn 1 [(0, eS 3 eStocked a0), (1, eS 3 ePartPromise a1), (7, eS 3 ePartPromise y8.2), (9, eS 2 ePartCount y11.2), (10, vi y11.1), (11, eS 3 ePartPromise y12.2), (13, vi y13), (72, vb ((y16 != y13) || (y8.1 != y12.1)))] [some (.row 3 [.agg [vt a2.Instrument, vt a2.Part, vi a2.Count]])] ?_
    refine RegJ.op (Op1.valk (v := eS 3 ePartPromise y8.2) _ _ (cy (IG 73 (.mov (.t 7)) 72 false)) rfl (by kernel_rfl) (fun hg => (.cons rfl .nil))) ?_
    refine RegJ.op (Op1.valk (v := eS 3 ePartPromise y12.2) _ _ (cy (IG 74 (.mov (.t 11)) 72 false)) rfl (by kernel_rfl) (fun hg => (.cons rfl .nil))) ?_
    obtain ⟨y17, hy17, h⟩ := bind_some h
    refine RegJ.op (Op1.callg (g := !((y16 != y13) || (y8.1 != y12.1))) (y' := vb y17) (obx := []) _ _ (cy (IG 75 (.call 50 [(.t 73), (.t 74)]) 72 false)) rfl (fun hg => agraffelaw08_samePromises_ok n y8.2 y12.2 y17 (gcall_some hy17 hg)) [] (fun hg => by kernel_rfl) (fun hg => (.cons rfl (.cons hg (.cons hg .nil)))) (by kernel_rfl) (by kernel_rfl) ObsRen.nil (by kernel_rfl) (by kernel_rfl)) ?_
    refine RegJ.op (Op1.valk (v := vb (!y17)) _ _ (cy (IG 76 (.un .not (.t 75)) 72 false)) rfl (by kernel_rfl) (fun hg => (.cons hg .nil))) ?_
    refine RegJ.op (Op1.or (cy (I0 77 (.pick (.t 72) (.c (.p (.bool true))) (.t 76)))) rfl rfl (by first | exact hokO1 | exact hokO0 | simp)) ?_
    refine jp [(0, eS 3 eStocked a0), (1, eS 3 ePartPromise a1), (9, eS 2 ePartCount y11.2), (10, vi y11.1), (13, vi y13), (77, vb (((y16 != y13) || (y8.1 != y12.1)) || (!y17)))] ?_
    refine TriE.cond (b := ((y16 != y13) || (y8.1 != y12.1)) || (!y17)) rfl (fun c4 => ?_) (fun c4 => ?_)
    · have h := cond_t h c4
      refine sr [(6, vb false)] [some (.row 3 [.agg [vt a2.Instrument, vt a2.Part, vi a2.Count]])] ?_
      refine TriE.ret ?_
      have h := Option.some.inj h
      subst h
      exact DoneS.ret (S' := ⟨[(6, vb false)], []⟩) (sc [] (by decide) (by kernel_rfl) ObRen.nil rfl rfl) rfl rfl
    have h := cond_f h c4
    refine TriE.skip ?_
    refine TriE.seq ?_
    refine sr [(0, eS 3 eStocked a0), (1, eS 3 ePartPromise a1), (9, eS 2 ePartCount y11.2), (10, vi y11.1), (13, vi y13), (79, vb (y13 != (0 : Int)))] [some (.row 3 [.agg [vt a2.Instrument, vt a2.Part, vi a2.Count]])] ?_
    refine TriE.cond (b := (y13 != (0 : Int))) rfl (fun c5 => ?_) (fun c5 => ?_)
    · have h := cond_t h c5
      refine sj ?_
      refine rn 4 [(9, eS 2 ePartCount y11.2), (83, vb (y11.1 == y13))] [some (.row 3 [.agg [vt a2.Instrument, vt a2.Part, vi a2.Count]])] ?_
      refine RegJ.op (Op1.valk (v := eS 2 ePartCount y11.2) _ _ (cy (IG 84 (.mov (.t 9)) 83 true)) rfl (by kernel_rfl) (fun hg => (.cons rfl .nil))) ?_
      refine RegJ.op (Op1.valg (v := vi ((y11.2.length : Nat) : Int)) _ _ (cy (IG 85 (.len 0 (.t 84)) 83 true)) rfl (fun hg => (ok_len_m rfl)) (fun hg => (.cons hg .nil))) ?_
      refine RegJ.op (Op1.valg (v := vb (decide (y11.2.length = 0))) _ _ (cy (IG 86 (.bin .eql false (.t 85) (.c (.p (.int .i64 0)))) 83 true)) rfl (fun hg => (n_eql (i := y11.2.length) (j := 0) rfl rfl)) (fun hg => (.cons hg (.cons rfl .nil)))) ?_
      refine RegJ.op (Op1.and (cy (I0 87 (.pick (.t 83) (.t 86) (.c (.p (.bool false)))))) rfl rfl (by first | exact hokA1 | exact hokA0 | simp)) ?_
      refine jq 1 [(6, vb ((y11.1 == y13) && (decide (y11.2.length = 0))))] [some (.row 3 [.agg [vt a2.Instrument, vt a2.Part, vi a2.Count]])] ?_
      refine TriE.ret ?_
      have h := Option.some.inj h
      subst h
      exact DoneS.ret (S' := ⟨[(6, vb ((y11.1 == y13) && (decide (y11.2.length = 0))))], []⟩) (sc [] (by decide) (by kernel_rfl) ObRen.nil rfl rfl) rfl rfl
    have h := cond_f h c5
    refine TriE.skip ?_
    refine TriE.seq ?_
    refine sj ?_
    refine rn 3 [(0, eS 3 eStocked a0), (1, eS 3 ePartPromise a1), (9, eS 2 ePartCount y11.2), (90, vb (y11.1 != (0 : Int)))] [some (.row 3 [.agg [vt a2.Instrument, vt a2.Part, vi a2.Count]])] ?_
    refine RegJ.op (Op1.valk (v := eS 2 ePartCount y11.2) _ _ (cy (IG 91 (.mov (.t 9)) 90 false)) rfl (by kernel_rfl) (fun hg => (.cons rfl .nil))) ?_
    refine RegJ.op (Op1.valk (v := eS 3 eStocked a0) _ _ (cy (IG 92 (.mov (.t 0)) 90 false)) rfl (by kernel_rfl) (fun hg => (.cons rfl .nil))) ?_
    refine RegJ.op (Op1.valk (v := eS 3 ePartPromise a1) _ _ (cy (IG 93 (.mov (.t 1)) 90 false)) rfl (by kernel_rfl) (fun hg => (.cons rfl .nil))) ?_
    obtain ⟨y18, hy18, h⟩ := bind_some h
    refine RegJ.op (Op1.callg (g := !(y11.1 != (0 : Int))) (y' := eS 2 ePartCount y18) (obx := []) _ _ (cy (IG 94 (.call 51 [(.t 92), (.t 93)]) 90 false)) rfl (fun hg => agrafferef08_LeftOf_ok n a0 a1 y18 (gcall_some hy18 hg)) [] (fun hg => by kernel_rfl) (fun hg => (.cons rfl (.cons hg (.cons hg .nil)))) (by kernel_rfl) (by kernel_rfl) ObsRen.nil (by kernel_rfl) (by kernel_rfl)) ?_
    obtain ⟨y19, hy19, h⟩ := bind_some h
    refine RegJ.op (Op1.callg (g := !(y11.1 != (0 : Int))) (y' := vb y19) (obx := []) _ _ (cy (IG 95 (.call 45 [(.t 91), (.t 94)]) 90 false)) rfl (fun hg => agraffelaw08_sameCounts_ok n y11.2 y18 y19 (gcall_some hy19 hg)) [] (fun hg => by kernel_rfl) (fun hg => (.cons rfl (.cons hg (.cons hg .nil)))) (by kernel_rfl) (by kernel_rfl) ObsRen.nil (by kernel_rfl) (by kernel_rfl)) ?_
    refine RegJ.op (Op1.valk (v := vb (!y19)) _ _ (cy (IG 96 (.un .not (.t 95)) 90 false)) rfl (by kernel_rfl) (fun hg => (.cons hg .nil))) ?_
    refine RegJ.op (Op1.or (cy (I0 97 (.pick (.t 90) (.c (.p (.bool true))) (.t 96)))) rfl rfl (by first | exact hokO1 | exact hokO0 | simp)) ?_
    refine jp [(0, eS 3 eStocked a0), (1, eS 3 ePartPromise a1), (9, eS 2 ePartCount y11.2), (97, vb ((y11.1 != (0 : Int)) || (!y19)))] ?_
    refine TriE.cond (b := (y11.1 != (0 : Int)) || (!y19)) rfl (fun c6 => ?_) (fun c6 => ?_)
    · have h := cond_t h c6
      refine sr [(6, vb false)] [some (.row 3 [.agg [vt a2.Instrument, vt a2.Part, vi a2.Count]])] ?_
      refine TriE.ret ?_
      have h := Option.some.inj h
      subst h
      exact DoneS.ret (S' := ⟨[(6, vb false)], []⟩) (sc [] (by decide) (by kernel_rfl) ObRen.nil rfl rfl) rfl rfl
    have h := cond_f h c6
    refine TriE.skip ?_
    refine TriE.seqK h (fun (_ : Unit) => St.mk [] []) ?_ ?_
    · rintro ⟨⟩ h
      refine sr [(6, vb true)] [] ?_
      refine TriE.ret ?_
      have h := Option.some.inj h
      subst h
      exact DoneS.ret (S' := ⟨[(6, vb true)], []⟩) Sees.refl rfl rfl
    intro k4 h
    refine sr [(0, eS 3 eStocked a0), (1, eS 3 ePartPromise a1), (9, eS 2 ePartCount y11.2), (14, vi 0)] [some (.row 3 [.agg [vt a2.Instrument, vt a2.Part, vi a2.Count]])] ?_
    refine TriE.block ?_
    refine TriE.sees (S' := ⟨[(0, eS 3 eStocked a0), (1, eS 3 ePartPromise a1), (9, eS 2 ePartCount y11.2), (14, vi 0)], []⟩) (sc [] (by decide) (by kernel_rfl) ObRen.nil rfl rfl) ?_
    refine TriE.loopN h (fun (v25 : Nat) => St.mk [(0, eS 3 eStocked a0), (1, eS 3 ePartPromise a1), (9, eS 2 ePartCount y11.2), (14, vi v25)] []) rfl ?_
    clear h
    rintro back v25 h
    dsimp only [agraffelaw08_RestorePromises_L2] at h
    refine TriE.seq ?_
    refine sj ?_
    refine rn 2 [(0, eS 3 eStocked a0), (1, eS 3 ePartPromise a1), (9, eS 2 ePartCount y11.2), (14, vi v25), (98, vi v25), (99, eS 3 eStocked a0)] [] ?_
    refine jv (vi (a0.length : Int)) (cy (I0 100 (.len 0 (.t 99)))) (ok_len_m rfl) rfl ?_
    refine jv (vb (decide (v25 < a0.length))) (cy (I0 101 (.bin .lss false (.t 98) (.t 100)))) (n_lss (i := v25) (j := a0.length) rfl rfl) rfl ?_
    refine jp [(0, eS 3 eStocked a0), (1, eS 3 ePartPromise a1), (9, eS 2 ePartCount y11.2), (14, vi v25), (101, vb (decide (v25 < a0.length)))] ?_
    refine TriE.cond (b := decide (v25 < a0.length)) rfl (fun c7 => ?_) (fun c7 => ?_)
    · have h := cond_t h c7
      refine TriE.skip ?_
      refine TriE.seq ?_
      refine TriE.block ?_
      refine sj ?_
      refine rn 2 [(0, eS 3 eStocked a0), (1, eS 3 ePartPromise a1), (9, eS 2 ePartCount y11.2), (14, vi v25), (104, eS 2 ePartCount y11.2), (105, vi v25)] [] ?_
      obtain ⟨c8, h⟩ := chk_some h
      refine jv (.fptr 2 (List.map ePartCount y11.2) v25 0) (cy (I0 106 (.iaddr 2 (.t 104) (.t 105)))) (ok_iaddr_m (j := v25) rfl rfl rfl c8) rfl ?_
      refine rn 1 [(0, eS 3 eStocked a0), (1, eS 3 ePartPromise a1), (9, eS 2 ePartCount y11.2), (14, vi v25), (107, .fptr 2 (List.map ePartCount y11.2) v25 1)] [] ?_
      refine jv (vi ((ix y11.2 v25).Count)) (cy (I0 108 (.load false 1 (.t 107)))) (ok_load_fm (v := vi ((ix y11.2 v25).Count)) rfl c8 rfl) rfl ?_
      refine jq 1 [(0, eS 3 eStocked a0), (1, eS 3 ePartPromise a1), (9, eS 2 ePartCount y11.2), (14, vi v25), (15, vi ((ix y11.2 v25).Count))] [] ?_
      refine TriE.seqK h (fun (v30 : Int) => St.mk [(0, eS 3 eStocked a0), (1, eS 3 ePartPromise a1), (9, eS 2 ePartCount y11.2), (14, vi v25), (15, vi v30)] []) ?_ ?_
      · rintro v30 h
        refine sj ?_
        refine rn 3 [(0, eS 3 eStocked a0), (1, eS 3 ePartPromise a1), (9, eS 2 ePartCount y11.2), (14, vi v25), (133, vi v30), (134, eS 3 eStocked a0), (135, vi v25)] [] ?_
        refine jv (.fptr 3 (List.map eStocked a0) v25 0) (cy (I0 136 (.iaddr 3 (.t 134) (.t 135)))) (ok_iaddr_m (j := v25) rfl rfl rfl c7) rfl ?_
        refine rn 1 [(0, eS 3 eStocked a0), (1, eS 3 ePartPromise a1), (9, eS 2 ePartCount y11.2), (14, vi v25), (133, vi v30), (137, .fptr 3 (List.map eStocked a0) v25 2)] [] ?_
        refine jv (vi ((ix a0 v25).Count)) (cy (I0 138 (.load false 1 (.t 137)))) (ok_load_fm (v := vi ((ix a0 v25).Count)) rfl c7 rfl) rfl ?_
        refine rn 2 [(0, eS 3 eStocked a0), (1, eS 3 ePartPromise a1), (9, eS 2 ePartCount y11.2), (14, vi v25), (140, vb (v30 != ((ix a0 v25).Count)))] [] ?_
        refine RegJ.op (Op1.valk (v := eS 2 ePartCount y11.2) _ _ (cy (IG 141 (.mov (.t 9)) 140 false)) rfl (by kernel_rfl) (fun hg => (.cons rfl .nil))) ?_
        refine RegJ.op (Op1.valk (v := vi v25) _ _ (cy (IG 142 (.mov (.t 14)) 140 false)) rfl (by kernel_rfl) (fun hg => (.cons rfl .nil))) ?_
        refine RegJ.op (Op1.valg (v := .fptr 2 (List.map ePartCount y11.2) v25 0) _ _ (cy (IG 143 (.iaddr 2 (.t 141) (.t 142)) 140 false)) rfl (fun hg => (ok_iaddr_m (j := v25) rfl rfl rfl c8)) (fun hg => (.cons hg (.cons hg .nil)))) ?_
        refine RegJ.op (Op1.valk (v := .fptr 2 (List.map ePartCount y11.2) v25 1) _ _ (cy (IG 144 (.faddr 1 (.t 143)) 140 false)) rfl (by kernel_rfl) (fun hg => (.cons hg .nil))) ?_
        refine RegJ.op (Op1.valg (v := vi ((ix y11.2 v25).Count)) _ _ (cy (IG 145 (.load false 1 (.t 144)) 140 false)) rfl (fun hg => (ok_load_fm (v := vi ((ix y11.2 v25).Count)) rfl c8 rfl)) (fun hg => (.cons hg .nil))) ?_
        refine RegJ.op (Op1.valk (v := vb (decide (((ix y11.2 v25).Count) < (0 : Int)))) _ _ (cy (IG 146 (.bin .lss false (.t 145) (.c (.p (.int .i64 0)))) 140 false)) rfl (by kernel_rfl) (fun hg => (.cons hg (.cons rfl .nil)))) ?_
        refine RegJ.op (Op1.or (cy (I0 147 (.pick (.t 140) (.c (.p (.bool true))) (.t 146)))) rfl rfl (by first | exact hokO1 | exact hokO0 | simp)) ?_
        refine jp [(0, eS 3 eStocked a0), (1, eS 3 ePartPromise a1), (9, eS 2 ePartCount y11.2), (14, vi v25), (147, vb ((v30 != ((ix a0 v25).Count)) || (decide (((ix y11.2 v25).Count) < (0 : Int)))))] ?_
        refine TriE.cond (b := (v30 != ((ix a0 v25).Count)) || (decide (((ix y11.2 v25).Count) < (0 : Int)))) rfl (fun c13 => ?_) (fun c13 => ?_)
        · have h := cond_t h c13
          refine sr [(6, vb false)] [] ?_
          refine TriE.ret ?_
          have h := Option.some.inj h
          subst h
          exact DoneS.ret (S' := ⟨[(6, vb false)], []⟩) Sees.refl rfl rfl
        have h := cond_f h c13
        refine TriE.skip ?_
        refine TriE.regJ ?_
        refine rn 1 [(0, eS 3 eStocked a0), (1, eS 3 ePartPromise a1), (9, eS 2 ePartCount y11.2), (102, vi v25)] [] ?_
        obtain ⟨c14, h⟩ := chk_some h
        refine jv (vi ((v25 + 1 : Nat) : Int)) (cy (I0 103 (.bin .add false (.t 102) (.c (.p (.int .i64 1)))))) (r_addn (i := v25) (j := 1) rfl rfl c14) rfl ?_
        refine jq 1 [(0, eS 3 eStocked a0), (1, eS 3 ePartPromise a1), (9, eS 2 ePartCount y11.2), (14, vi ((v25 + 1 : Nat) : Int))] [] ?_
        exact Vs.intro sy ⟨(v25 + 1), rfl, h⟩
      intro k3 h
      refine sr [(0, eS 3 eStocked a0), (1, eS 3 ePartPromise a1), (9, eS 2 ePartCount y11.2), (14, vi v25), (15, vi ((ix y11.2 v25).Count)), (16, vi 0)] [] ?_
      refine TriE.block ?_
      refine TriE.sees (S' := ⟨[(0, eS 3 eStocked a0), (1, eS 3 ePartPromise a1), (9, eS 2 ePartCount y11.2), (14, vi v25), (15, vi ((ix y11.2 v25).Count)), (16, vi 0)], []⟩) sy ?_
      refine TriE.loopN h (fun (t : Int × Nat) => match t with | (v27, v28) => St.mk [(0, eS 3 eStocked a0), (1, eS 3 ePartPromise a1), (9, eS 2 ePartCount y11.2), (14, vi v25), (15, vi v27), (16, vi v28)] []) rfl ?_
      clear h
      rintro back ⟨v27, v28⟩ h
      dsimp only [agraffelaw08_RestorePromises_L1] at h
      refine TriE.seq ?_
      refine sj ?_
      refine rn 2 [(0, eS 3 eStocked a0), (1, eS 3 ePartPromise a1), (9, eS 2 ePartCount y11.2), (14, vi v25), (15, vi v27), (16, vi v28), (109, vi v28), (110, eS 3 ePartPromise a1)] [] ?_
      refine jv (vi (a1.length : Int)) (cy (I0 111 (.len 0 (.t 110)))) (ok_len_m rfl) rfl ?_
      refine jv (vb (decide (v28 < a1.length))) (cy (I0 112 (.bin .lss false (.t 109) (.t 111)))) (n_lss (i := v28) (j := a1.length) rfl rfl) rfl ?_
      refine jp [(0, eS 3 eStocked a0), (1, eS 3 ePartPromise a1), (9, eS 2 ePartCount y11.2), (14, vi v25), (15, vi v27), (16, vi v28), (112, vb (decide (v28 < a1.length)))] ?_
      refine TriE.cond (b := decide (v28 < a1.length)) rfl (fun c9 => ?_) (fun c9 => ?_)
      · have h := cond_t h c9
        refine TriE.skip ?_
        refine TriE.seqK h (fun (v29 : Int) => St.mk [(0, eS 3 eStocked a0), (1, eS 3 ePartPromise a1), (9, eS 2 ePartCount y11.2), (14, vi v25), (16, vi v28), (15, vi v29)] []) ?_ ?_
        · rintro v29 h
          refine TriE.regJ ?_
          refine rn 1 [(0, eS 3 eStocked a0), (1, eS 3 ePartPromise a1), (9, eS 2 ePartCount y11.2), (14, vi v25), (15, vi v29), (113, vi v28)] [] ?_
          obtain ⟨c12, h⟩ := chk_some h
          refine jv (vi ((v28 + 1 : Nat) : Int)) (cy (I0 114 (.bin .add false (.t 113) (.c (.p (.int .i64 1)))))) (r_addn (i := v28) (j := 1) rfl rfl c12) rfl ?_
          refine jq 1 [(0, eS 3 eStocked a0), (1, eS 3 ePartPromise a1), (9, eS 2 ePartCount y11.2), (14, vi v25), (15, vi v29), (16, vi ((v28 + 1 : Nat) : Int))] [] ?_
          exact Vs.intro sy ⟨(v29, v28 + 1), rfl, h⟩
        intro k2 h
        refine TriE.block ?_
        refine TriE.seq ?_
        refine TriE.sees (Sees.less (fr' := [(0, eS 3 eStocked a0), (1, eS 3 ePartPromise a1), (9, eS 2 ePartCount y11.2), (14, vi v25), (15, vi v27), (16, vi v28)]) (.cons rfl (.cons rfl (.cons rfl (.cons rfl (.cons rfl (.cons rfl .nil))))))) ?_
        refine TriE.draw (by kernel_rfl) ?_
        refine RegD.run 2 [(116, vi v28), (115, eS 3 ePartPromise a1), (0, eS 3 eStocked a0), (1, eS 3 ePartPromise a1), (9, eS 2 ePartCount y11.2), (14, vi v25), (15, vi v27), (16, vi v28)] [none, none] (by kernel_rfl) ?_
        refine dv (.fptr 3 (List.map ePartPromise a1) v28 0) (cy (I0 117 (.iaddr 3 (.t 115) (.t 116)))) (ok_iaddr_m (j := v28) rfl rfl rfl c9) rfl ?_
        refine RegD.run 1 [(118, .fptr 3 (List.map ePartPromise a1) v28 1), (117, .fptr 3 (List.map ePartPromise a1) v28 0), (116, vi v28), (115, eS 3 ePartPromise a1), (0, eS 3 eStocked a0), (1, eS 3 ePartPromise a1), (9, eS 2 ePartCount y11.2), (14, vi v25), (15, vi v27), (16, vi v28)] [none, none, none, none] (by kernel_rfl) ?_
        refine dv (vt ((ix a1 v28).Part)) (cy (I0 119 (.load false 1 (.t 118)))) (ok_load_fm (v := vt ((ix a1 v28).Part)) rfl c9 rfl) rfl ?_
        refine RegD.run 2 [(121, vi v25), (120, eS 3 eStocked a0), (119, vt ((ix a1 v28).Part)), (118, .fptr 3 (List.map ePartPromise a1) v28 1), (117, .fptr 3 (List.map ePartPromise a1) v28 0), (116, vi v28), (115, eS 3 ePartPromise a1), (0, eS 3 eStocked a0), (1, eS 3 ePartPromise a1), (9, eS 2 ePartCount y11.2), (14, vi v25), (15, vi v27), (16, vi v28)] [none, none, none, none, none, none, none] (by kernel_rfl) ?_
        refine dv (.fptr 3 (List.map eStocked a0) v25 0) (cy (I0 122 (.iaddr 3 (.t 120) (.t 121)))) (ok_iaddr_m (j := v25) rfl rfl rfl c7) rfl ?_
        refine RegD.run 1 [(123, .fptr 3 (List.map eStocked a0) v25 0), (122, .fptr 3 (List.map eStocked a0) v25 0), (121, vi v25), (120, eS 3 eStocked a0), (119, vt ((ix a1 v28).Part)), (118, .fptr 3 (List.map ePartPromise a1) v28 1), (117, .fptr 3 (List.map ePartPromise a1) v28 0), (116, vi v28), (115, eS 3 ePartPromise a1), (0, eS 3 eStocked a0), (1, eS 3 ePartPromise a1), (9, eS 2 ePartCount y11.2), (14, vi v25), (15, vi v27), (16, vi v28)] [none, none, none, none, none, none, none, none, none] (by kernel_rfl) ?_
        refine dv (vt ((ix a0 v25).Part)) (cy (I0 124 (.load false 1 (.t 123)))) (ok_load_fm (v := vt ((ix a0 v25).Part)) rfl c7 rfl) rfl ?_
        refine RegD.run 1 [(125, vb (((ix a1 v28).Part) == ((ix a0 v25).Part))), (124, vt ((ix a0 v25).Part)), (123, .fptr 3 (List.map eStocked a0) v25 0), (122, .fptr 3 (List.map eStocked a0) v25 0), (121, vi v25), (120, eS 3 eStocked a0), (119, vt ((ix a1 v28).Part)), (118, .fptr 3 (List.map ePartPromise a1) v28 1), (117, .fptr 3 (List.map ePartPromise a1) v28 0), (116, vi v28), (115, eS 3 ePartPromise a1), (0, eS 3 eStocked a0), (1, eS 3 ePartPromise a1), (9, eS 2 ePartCount y11.2), (14, vi v25), (15, vi v27), (16, vi v28)] [none, none, none, none, none, none, none, none, none, none, none] (by kernel_rfl) ?_
        refine RegD.done rfl (by kernel_rfl) (S' := ⟨[(0, eS 3 eStocked a0), (1, eS 3 ePartPromise a1), (9, eS 2 ePartCount y11.2), (14, vi v25), (15, vi v27), (16, vi v28), (125, vb (((ix a1 v28).Part) == ((ix a0 v25).Part)))], []⟩) (sc [] (by decide) (by kernel_rfl) ObRen.nil rfl rfl) ?_
        refine TriE.cond (b := (((ix a1 v28).Part) == ((ix a0 v25).Part))) rfl (fun c10 => ?_) (fun c10 => ?_)
        · have h := cond_t h c10
          refine TriE.regJ ?_
          refine rn 3 [(0, eS 3 eStocked a0), (1, eS 3 ePartPromise a1), (9, eS 2 ePartCount y11.2), (14, vi v25), (16, vi v28), (126, vi v27), (127, eS 3 ePartPromise a1), (128, vi v28)] [] ?_
          refine jv (.fptr 3 (List.map ePartPromise a1) v28 0) (cy (I0 129 (.iaddr 3 (.t 127) (.t 128)))) (ok_iaddr_m (j := v28) rfl rfl rfl c9) rfl ?_
          refine rn 1 [(0, eS 3 eStocked a0), (1, eS 3 ePartPromise a1), (9, eS 2 ePartCount y11.2), (14, vi v25), (16, vi v28), (126, vi v27), (130, .fptr 3 (List.map ePartPromise a1) v28 2)] [] ?_
          refine jv (vi ((ix a1 v28).Count)) (cy (I0 131 (.load false 1 (.t 130)))) (ok_load_fm (v := vi ((ix a1 v28).Count)) rfl c9 rfl) rfl ?_
          obtain ⟨c11, h⟩ := chk_some h
          refine jv (vi (v27 + ((ix a1 v28).Count))) (cy (I0 132 (.bin .add false (.t 126) (.t 131)))) (r_add rfl rfl c11) rfl ?_
          refine jq 1 [(0, eS 3 eStocked a0), (1, eS 3 ePartPromise a1), (9, eS 2 ePartCount y11.2), (14, vi v25), (16, vi v28), (15, vi (v27 + ((ix a1 v28).Count)))] [] ?_
          exact Vs.intro Sees.refl ⟨(v27 + ((ix a1 v28).Count)), rfl, h⟩
        have h := cond_f h c10
        refine TriE.skip ?_
        exact Vs.intro sy ⟨v27, rfl, h⟩
      have h := cond_f h c9
      refine TriE.exit ?_
      exact Vs.intro sy ⟨v27, rfl, h⟩
    have h := cond_f h c7
    refine TriE.exit ?_
    exact Vs.intro sy ⟨(), rfl, h⟩
  intro k1 h
  refine TriE.regJ ?_
  refine rn 1 [(0, eS 3 eStocked a0), (1, eS 3 ePartPromise a1), (5, .ptr 0 0 0), (19, eS 3 eStocked a0)] [some (.row 3 [.agg [vt a2.Instrument, vt a2.Part, vi a2.Count]])] ?_
  obtain ⟨y2, hy2, h⟩ := bind_some h
  refine RegJ.op (Op1.call (y' := vb y2) (obx := []) (oby := []) (ob2 := [some (.row 3 [.agg [vt a2.Instrument, vt a2.Part, vi a2.Count]])]) _ _ (cy (I0 20 (.call 16 [(.t 19)]))) rfl (agraffelaw08_stocked_ok n a0 y2 hy2) [] (by kernel_rfl) (.cons rfl (.cons rfl .nil)) (by kernel_rfl) (by kernel_rfl) ObsRen.nil (by kernel_rfl) ObsRen.nil (by kernel_rfl)) ?_
  refine rn 2 [(0, eS 3 eStocked a0), (1, eS 3 ePartPromise a1), (5, .ptr 0 0 0), (22, vb (!y2))] [some (.row 3 [.agg [vt a2.Instrument, vt a2.Part, vi a2.Count]])] ?_
  refine RegJ.op (Op1.valk (v := eS 3 ePartPromise a1) _ _ (cy (IG 23 (.mov (.t 1)) 22 false)) rfl (by kernel_rfl) (fun hg => (.cons rfl .nil))) ?_
  obtain ⟨y3, hy3, h⟩ := bind_some h
  refine RegJ.op (Op1.callg (g := !(!y2)) (y' := vb y3) (obx := []) _ _ (cy (IG 24 (.call 40 [(.t 23)]) 22 false)) rfl (fun hg => agraffelaw08_promised_ok n a1 y3 (gcall_some hy3 hg)) [] (fun hg => by kernel_rfl) (fun hg => (.cons rfl (.cons hg .nil))) (by kernel_rfl) (by kernel_rfl) ObsRen.nil (by kernel_rfl) (by kernel_rfl)) ?_
  refine RegJ.op (Op1.valk (v := vb (!y3)) _ _ (cy (IG 25 (.un .not (.t 24)) 22 false)) rfl (by kernel_rfl) (fun hg => (.cons hg .nil))) ?_
  refine RegJ.op (Op1.or (cy (I0 26 (.pick (.t 22) (.c (.p (.bool true))) (.t 25)))) rfl rfl (by first | exact hokO1 | exact hokO0 | simp)) ?_
  refine rn 1 [(0, eS 3 eStocked a0), (1, eS 3 ePartPromise a1), (5, .ptr 0 0 0), (27, vb ((!y2) || (!y3)))] [some (.row 3 [.agg [vt a2.Instrument, vt a2.Part, vi a2.Count]])] ?_
  refine RegJ.op (Op1.valk (v := .agg [vt a2.Instrument, vt a2.Part, vi a2.Count]) _ _ (cy (IG 28 (.load true 3 (.t 5)) 27 false)) rfl (by kernel_rfl) (fun hg => (.cons rfl .nil))) ?_
  rcases Bool.eq_false_or_eq_true (!((!y2) || (!y3))) with c2 | c2
  · have h := cond_t h c2
    refine RegJ.op (Op1.effk (v := .own 1 0 1) (ob' := [some (.row 3 [.agg [vt a2.Instrument, vt a2.Part, vi a2.Count]]), some (.row 3 [.agg [vt a2.Instrument, vt a2.Part, vi a2.Count]])]) _ _ (cy (IG 29 (.bslice 3 (.agg [(.p (.string ⟨#[]⟩)), (.p (.string ⟨#[]⟩)), (.p (.int .i64 0))]) 1 [(0, (.t 28))]) 27 false)) (congrArg some c2) (by kernel_rfl) (.cons c2 .nil)) ?_
    refine RegJ.sees (Sees.freeze 1 (fr' := [(0, eS 3 eStocked a0), (1, eS 3 ePartPromise a1), (5, .ptr 0 0 0), (27, vb ((!y2) || (!y3))), (28, .cond (!((!y2) || (!y3))) (.agg [vt a2.Instrument, vt a2.Part, vi a2.Count])), (29, eS 3 ePartPromise ([a2] : List PartPromise))]) (ob' := [some (.row 3 [.agg [vt a2.Instrument, vt a2.Part, vi a2.Count]]), none]) rfl (frzs_cons rfl frzs_nil) (.cons (.refl _) (.cons (.refl _) (.cons (.refl _) (.cons (.refl _) (.cons (.refl _) (.cons (.own rfl (Nat.le_of_ble_eq_true rfl)) .nil)))))) rfl) ?_
    obtain ⟨y4, hy4, h⟩ := bind_some h
    refine RegJ.op (Op1.call (y' := vb y4) (obx := []) (oby := []) (ob2 := [some (.row 3 [.agg [vt a2.Instrument, vt a2.Part, vi a2.Count]]), none]) _ _ (cy (IG 30 (.call 40 [(.t 29)]) 27 false)) (congrArg some c2) (agraffelaw08_promised_ok n ([a2] : List PartPromise) y4 hy4) [] (by kernel_rfl) (.cons rfl (.cons rfl .nil)) (by kernel_rfl) (by kernel_rfl) ObsRen.nil (by kernel_rfl) ObsRen.nil (by kernel_rfl)) ?_
    refine RegJ.op (Op1.effk (v := vb (!y4)) (ob' := [some (.row 3 [.agg [vt a2.Instrument, vt a2.Part, vi a2.Count]]), none]) _ _ (cy (IG 31 (.un .not (.t 30)) 27 false)) (congrArg some c2) (by kernel_rfl) (.cons rfl .nil)) ?_
    refine RegJ.op (Op1.or (cy (I0 32 (.pick (.t 27) (.c (.p (.bool true))) (.t 31)))) rfl rfl (by first | exact hokO1 | exact hokO0 | simp)) ?_
    refine jp [(0, eS 3 eStocked a0), (1, eS 3 ePartPromise a1), (5, .ptr 0 0 0), (32, vb (((!y2) || (!y3)) || (!y4)))] ?_
    exact Vs.intro (sc [0] (by decide) (by kernel_rfl) (.cons rfl .nil) rfl rfl) ⟨(((!y2) || (!y3)) || (!y4)), rfl, h⟩
  have h := cond_f h c2
  refine RegJ.op (Op1.skipc (g := !((!y2) || (!y3))) (v := vb false) (by kernel_rfl : compAt _ _ _ _ = some ⟨(some 29), .bslice 3 (.agg [(.p (.string ⟨#[]⟩)), (.p (.string ⟨#[]⟩)), (.p (.int .i64 0))]) 1 [(0, (.t 28))], (some (27, false)), [(.t 28)], 0⟩) rfl c2) ?_
  refine RegJ.op (Op1.skipc (g := !((!y2) || (!y3))) (v := vb false) (by kernel_rfl : compAt _ _ _ _ = some ⟨(some 30), .call 40 [(.t 29)], (some (27, false)), [(.c (.fn (.func 40) [] [])), (.t 29)], 2⟩) rfl c2) ?_
  refine RegJ.op (Op1.skipc (g := !((!y2) || (!y3))) (v := vb false) (by kernel_rfl : compAt _ _ _ _ = some ⟨(some 31), .un .not (.t 30), (some (27, false)), [(.t 30)], 0⟩) rfl c2) ?_
  refine RegJ.op (Op1.or (cy (I0 32 (.pick (.t 27) (.c (.p (.bool true))) (.t 31)))) rfl rfl (by first | exact hokO1 | exact hokO0 | simp)) ?_
  refine jp [(0, eS 3 eStocked a0), (1, eS 3 ePartPromise a1), (5, .ptr 0 0 0), (32, vb (((!y2) || (!y3)) || false))] ?_
  exact Vs.intro Sees.refl ⟨(((!y2) || (!y3)) || false), rfl, h⟩
end Go.Proofs.YtcdcpambkdlhjaaGreat.As
