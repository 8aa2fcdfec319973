/- The code computes what the plain functions say, part 1: no condition. -/
import Derived.Test.YtcdcpambkdlhjaaGreatPlain1
import Derived.Test.YtcdcpambkdlhjaaGreatProg
namespace Go.Proofs.YtcdcpambkdlhjaaGreat.As
open Go Go.Proofs
set_option maxRecDepth 4000
def keepT : List (Nat × List Nat) := [(14, [0, 1, 2, 3, 4, 5, 6, 7]), (19, [0, 2, 3, 4, 7, 9, 10, 11, 17, 25]), (22, [0, 2, 3, 4, 7, 8, 9, 10, 11, 15, 20, 28]), (29, [0, 1, 4, 5, 6, 7, 8, 10, 11, 12, 17, 21, 22, 23, 24, 28, 29, 30, 35]), (33, [0, 1, 4, 5, 10, 14, 25]), (35, [0, 1, 4, 5, 10, 14, 26]), (39, [0, 1, 4, 5, 10, 14, 25]), (65, [0, 1, 2, 6, 7, 8, 9, 10, 11, 12, 13, 15, 16, 17, 19, 20, 22, 23, 24, 25, 26, 27, 28, 29, 30, 34, 39, 46, 50, 51, 52, 53, 63, 77, 78, 79, 80, 81, 85, 86, 87, 88, 127, 128, 129, 140, 144, 145, 146, 147, 155, 180]), (82, [0]), (83, [0]), (84, [0, 1, 2, 3, 4, 5, 6, 8, 9, 10, 11, 12, 13, 15, 16, 20, 24, 28, 31, 35, 36, 37, 38, 52, 53, 54, 55, 83, 84, 85, 86]), (85, [0, 1, 4, 5, 6, 7, 9, 10, 15, 20, 27, 38, 66, 69, 70, 71, 72, 77, 82]), (86, [0, 1, 3, 4, 5, 6, 7, 13]), (87, [2]), (89, [0, 2, 3, 4, 5, 7, 8, 9, 10, 45]), (90, [0, 1, 3, 4]), (91, [0, 1, 2, 6]), (96, [0, 1, 4, 5, 6, 7, 8, 9, 10, 14, 19]), (98, [0, 1, 4, 5, 6, 8, 13, 17, 18, 19, 20, 21, 39]), (99, [0, 2, 4]), (100, [0, 1, 4, 5, 7, 8, 9, 16]), (101, [0, 1, 2, 3]), (103, [0, 2]), (108, [0, 1, 4, 5, 6, 7, 8, 9, 10, 14, 19, 25]), (116, [0, 1, 4]), (117, [0, 1, 3, 4]), (118, [0, 1, 4]), (126, [0, 1, 4]), (131, [0, 1, 4, 6, 7, 8, 9, 10, 11, 17, 22, 34]), (132, [0, 1, 2, 4, 5, 6, 8, 9, 13, 14, 15, 16, 24]), (133, [0, 1, 4, 5, 7, 8, 9, 10, 11]), (134, [0, 1, 3, 4, 5, 10, 11, 12, 18, 39]), (135, [0, 1, 4, 5, 6, 7, 8, 9, 10, 11, 19]), (136, [0, 2, 3, 5, 6, 7, 8, 9, 14]), (137, [0, 1, 4, 5, 6, 11, 12, 13, 16, 19]), (138, [0, 1, 4, 5, 6, 7, 8, 9, 10, 11, 12, 19, 28, 35]), (145, [0, 1, 4, 5, 6, 11, 12, 13, 16, 19]), (146, [0, 1, 2]), (148, [0, 2]), (149, [0, 2, 3, 4, 7, 15]), (150, [0, 1]), (151, [0, 1, 2, 3, 4, 7]), (152, [0, 2]), (153, [0, 1, 2, 4]), (154, [0, 1, 4]), (155, [0, 1, 4, 5, 7, 8, 9, 16]), (156, [0, 1, 2, 3]), (157, [0, 1, 4, 5, 7, 8, 9, 16]), (158, [0, 1, 2, 3]), (162, [0, 1, 2, 12]), (163, [0, 1, 2, 3, 8, 9, 11, 12, 13, 17, 19, 20, 21, 22, 30, 34, 42]), (164, [0, 1, 2]), (165, [0, 1, 2, 3, 8, 9, 10, 11, 12, 13, 14, 15, 16, 17, 18, 23, 29, 35, 50, 68, 72, 87, 113]), (166, [0, 2]), (167, [0, 1, 4]), (168, [0, 1, 2, 3]), (170, [0, 1, 4, 5, 7, 8, 9, 16]), (171, [0, 1, 2, 3]), (172, [0, 1, 4, 5, 7, 8, 9, 16]), (180, [0, 1, 4, 5, 7, 8, 9, 16]), (181, [0, 1, 4]), (182, [0, 1, 3]), (183, [0, 2]), (186, [0, 2]), (187, [0, 2, 3, 5, 6, 8, 9, 10, 11, 12, 20, 25, 26, 27, 28]), (188, [0, 1, 2, 6, 7, 8, 9, 13, 30, 35, 54]), (189, [0, 1, 4, 5, 7, 8, 9, 16]), (190, [0, 1, 2, 6, 7, 12, 30]), (191, [0, 1, 2, 6, 7, 8, 9, 10, 19, 30]), (192, [0, 1, 2, 6, 7, 8, 9, 10, 15, 33, 43]), (193, [0, 1, 2, 6, 7, 8, 9, 10, 11, 12, 32, 34, 49, 51, 54]), (194, [0, 1, 2, 6, 7, 13]), (195, [0, 1, 2, 6, 7, 8, 9, 10, 14, 32, 37, 41, 61, 65, 78, 98, 103, 116]), (196, [0, 1, 4]), (197, [0, 1, 2, 3, 8, 9, 10, 43, 59, 64]), (198, [0, 1, 2, 3, 8, 9, 10, 11, 43, 60, 65, 112, 129, 134]), (199, [0, 2, 4, 8]), (200, [0, 2, 4, 8, 14]), (201, [0, 1, 4, 5, 7, 8, 9, 16]), (205, [0, 1, 4, 5, 7, 8, 9, 16]), (216, [0, 1, 4, 6, 16]), (217, [0, 1, 2, 3, 8, 9, 14, 34]), (218, [0, 1, 2, 3, 4, 10, 11, 12, 13, 14, 15, 16, 17, 18, 19, 20, 21, 22, 23, 24, 28, 33, 50, 58, 80, 85, 103, 110, 140, 151, 171, 185, 199, 213]), (219, [0, 1, 2, 3, 8, 9, 16, 36, 52]), (220, [0, 2]), (221, [0, 2]), (222, [0, 1, 2, 6]), (223, [0, 1, 2, 3, 4, 10]), (228, [0, 1, 2, 3, 4, 10, 11, 20, 23]), (229, [0, 1, 2, 3, 8, 9, 18]), (231, [0, 1, 2, 3, 10, 13])]
def keepOf (f : Nat) : List Nat := match keepT.find? (fun p => Nat.beq p.1 f) with
  | some p => p.2
  | none => []
theorem closed_ok : FnL Tryz.prog 14 [] [] (vb true) [] := funE_sound (by kernel_rfl) 200 false 14 [] [] _ _ (by kernel_rfl : funE Tryz.prog keepOf 1000 200 false 14 [] [] = some (vb true, []))
theorem agraffelaw08_awake_ok (n : Nat) (r : Bool) (h : agraffelaw08_awake n = some r) : FnL Tryz.prog 14 [] [] (vb r) [] := by
  cases h
  exact closed_ok
theorem agraffelaw08_texts_ok (n : Nat) (a0 : List Str) (a1 : Int) (r : Bool) (h : agraffelaw08_texts n a0 a1 = some r) : FnL Tryz.prog 17 [eS 1 vt a0, vi a1] [] (vb r) [] := by
  dsimp only [agraffelaw08_texts] at h
  refine FnL.ofS (ts := [4]) Tryz.call17 Tryz.func17 rfl rfl (Nat.le_of_ble_eq_true rfl) (Nat.le_of_ble_eq_true rfl) (fun j h => absurd h (Nat.not_lt_zero j)) ?_
  refine sr [(0, eS 1 vt a0), (1, vi a1)] [] ?_
  refine TriE.seq ?_
  refine sj ?_
  refine rn 1 [(0, eS 1 vt a0), (1, vi a1), (6, eS 1 vt a0)] [] ?_
  refine jv (vi (a0.length : Int)) (cy (I0 7 (.len 0 (.t 6)))) (ok_len_m rfl) rfl ?_
  refine jq 2 [(0, eS 1 vt a0), (9, vb (decide (a1 < (a0.length : Int))))] [] ?_
  refine TriE.cond (b := decide (a1 < (a0.length : Int))) rfl (fun c1 => ?_) (fun c1 => ?_)
  · have h := cond_t h c1
    refine sr [(4, vb false)] [] ?_
    refine TriE.ret ?_
    have h := Option.some.inj h
    subst h
    exact DoneS.ret (S' := ⟨[(4, vb false)], []⟩) Sees.refl rfl rfl
  have h := cond_f h c1
  refine TriE.skip ?_
  refine TriE.seqK h (fun (_ : Unit) => St.mk [] []) ?_ ?_
  · rintro ⟨⟩ h
    refine sr [(4, vb true)] [] ?_
    refine TriE.ret ?_
    have h := Option.some.inj h
    subst h
    exact DoneS.ret (S' := ⟨[(4, vb true)], []⟩) Sees.refl rfl rfl
  intro k1 h
  refine sr [(0, eS 1 vt a0), (5, vi 0)] [] ?_
  refine TriE.block ?_
  refine TriE.sees (S' := ⟨[(0, eS 1 vt a0), (5, vi 0)], []⟩) sy ?_
  refine TriE.loopN h (fun (v1 : Nat) => St.mk [(0, eS 1 vt a0), (5, vi v1)] []) rfl ?_
  clear h
  rintro back v1 h
  dsimp only [agraffelaw08_texts_L1] at h
  refine TriE.seq ?_
  refine sj ?_
  refine rn 2 [(0, eS 1 vt a0), (5, vi v1), (10, vi v1), (11, eS 1 vt a0)] [] ?_
  refine jv (vi (a0.length : Int)) (cy (I0 12 (.len 0 (.t 11)))) (ok_len_m rfl) rfl ?_
  refine jv (vb (decide (v1 < a0.length))) (cy (I0 13 (.bin .lss false (.t 10) (.t 12)))) (n_lss (i := v1) (j := a0.length) rfl rfl) rfl ?_
  refine jp [(0, eS 1 vt a0), (5, vi v1), (13, vb (decide (v1 < a0.length)))] ?_
  refine TriE.cond (b := decide (v1 < a0.length)) rfl (fun c2 => ?_) (fun c2 => ?_)
  · have h := cond_t h c2
    refine TriE.skip ?_
    refine TriE.seq ?_
    refine TriE.block ?_
    refine sj ?_
    refine rn 2 [(0, eS 1 vt a0), (5, vi v1), (16, eS 1 vt a0), (17, vi v1)] [] ?_
    refine jv (.fptr 1 (List.map vt a0) v1 0) (cy (I0 18 (.iaddr 1 (.t 16) (.t 17)))) (ok_iaddr_m (j := v1) rfl rfl rfl c2) rfl ?_
    refine jv (vt (ix a0 v1)) (cy (I0 19 (.load false 1 (.t 18)))) (ok_load_fm (v := vt (ix a0 v1)) rfl c2 rfl) rfl ?_
    refine jv (vi (((ix a0 v1).length : Nat) : Int)) (cy (I0 20 (.len 1 (.t 19)))) (ok_len_t rfl) rfl ?_
    refine jv (vb (decide (20 < ((ix a0 v1).length)))) (cy (I0 21 (.bin .gtr false (.t 20) (.c (.p (.int .i64 20)))))) (n_gtr (i := (ix a0 v1).length) (j := 20) rfl rfl) rfl ?_
    refine jp [(0, eS 1 vt a0), (5, vi v1), (21, vb (decide (20 < ((ix a0 v1).length))))] ?_
    refine TriE.cond (b := decide (20 < ((ix a0 v1).length))) rfl (fun c3 => ?_) (fun c3 => ?_)
    · have h := cond_t h c3
      refine sr [(4, vb false)] [] ?_
      refine TriE.ret ?_
      have h := Option.some.inj h
      subst h
      exact DoneS.ret (S' := ⟨[(4, vb false)], []⟩) Sees.refl rfl rfl
    have h := cond_f h c3
    refine TriE.skip ?_
    refine TriE.regJ ?_
    refine rn 1 [(0, eS 1 vt a0), (14, vi v1)] [] ?_
    obtain ⟨c4, h⟩ := chk_some h
    refine jv (vi ((v1 + 1 : Nat) : Int)) (cy (I0 15 (.bin .add false (.t 14) (.c (.p (.int .i64 1)))))) (r_addn (i := v1) (j := 1) rfl rfl c4) rfl ?_
    refine jq 1 [(0, eS 1 vt a0), (5, vi ((v1 + 1 : Nat) : Int))] [] ?_
    exact Vs.intro sy ⟨(v1 + 1), rfl, h⟩
  have h := cond_f h c2
  refine TriE.exit ?_
  exact Vs.intro sy ⟨(), rfl, h⟩
theorem agraffelaw08_Few_ok (n : Nat) (a0 : List Task) (r : Bool) (h : agraffelaw08_Few n a0 = some r) : FnL Tryz.prog 15 [eS 6 eTask a0] [] (vb r) [] := by
  dsimp only [agraffelaw08_Few] at h
  refine FnL.ofS (ts := [2]) Tryz.call15 Tryz.func15 rfl rfl (Nat.le_of_ble_eq_true rfl) (Nat.le_of_ble_eq_true rfl) (fun j h => absurd h (Nat.not_lt_zero j)) ?_
  refine sr [(0, eS 6 eTask a0)] [] ?_
  refine TriE.seq ?_
  refine sj ?_
  refine rn 1 [(0, eS 6 eTask a0), (7, eS 6 eTask a0)] [] ?_
  refine jv (vi (a0.length : Int)) (cy (I0 8 (.len 0 (.t 7)))) (ok_len_m rfl) rfl ?_
  refine jv (vb (decide (9 < a0.length))) (cy (I0 9 (.bin .gtr false (.t 8) (.c (.p (.int .i64 9)))))) (n_gtr (i := a0.length) (j := 9) rfl rfl) rfl ?_
  refine rn 1 [(0, eS 6 eTask a0), (10, vb (decide (9 < a0.length)))] [] ?_
  refine RegJ.op (Op1.valk (v := eS 6 eTask a0) _ _ (cy (IG 11 (.mov (.t 0)) 10 true)) rfl (by kernel_rfl) (fun hg => (.cons rfl .nil))) ?_
  refine RegJ.op (Op1.valg (v := vi (a0.length : Int)) _ _ (cy (IG 12 (.len 0 (.t 11)) 10 true)) rfl (fun hg => (ok_len_m rfl)) (fun hg => (.cons hg .nil))) ?_
  refine RegJ.op (Op1.valg (v := vb (decide (a0.length ≤ 60))) _ _ (cy (IG 13 (.bin .leq false (.t 12) (.c (.p (.int .i64 60)))) 10 true)) rfl (fun hg => (n_leq (i := a0.length) (j := 60) rfl rfl)) (fun hg => (.cons hg (.cons rfl .nil)))) ?_
  refine RegJ.op (Op1.and (cy (I0 14 (.pick (.t 10) (.t 13) (.c (.p (.bool false)))))) rfl rfl (by first | exact hokA1 | exact hokA0 | simp)) ?_
  refine rn 1 [(0, eS 6 eTask a0), (15, vb ((decide (9 < a0.length)) && (decide (a0.length ≤ 60))))] [] ?_
  refine RegJ.op (Op1.valk (v := eS 6 eTask a0) _ _ (cy (IG 16 (.mov (.t 0)) 15 false)) rfl (by kernel_rfl) (fun hg => (.cons rfl .nil))) ?_
  refine RegJ.op (Op1.valg (v := vi (a0.length : Int)) _ _ (cy (IG 17 (.len 0 (.t 16)) 15 false)) rfl (fun hg => (ok_len_m rfl)) (fun hg => (.cons hg .nil))) ?_
  refine RegJ.op (Op1.valg (v := vb (decide (63 < a0.length))) _ _ (cy (IG 18 (.bin .gtr false (.t 17) (.c (.p (.int .i64 63)))) 15 false)) rfl (fun hg => (n_gtr (i := a0.length) (j := 63) rfl rfl)) (fun hg => (.cons hg (.cons rfl .nil)))) ?_
  refine RegJ.op (Op1.or (cy (I0 19 (.pick (.t 15) (.c (.p (.bool true))) (.t 18)))) rfl rfl (by first | exact hokO1 | exact hokO0 | simp)) ?_
  refine jp [(0, eS 6 eTask a0), (19, vb (((decide (9 < a0.length)) && (decide (a0.length ≤ 60))) || (decide (63 < a0.length))))] ?_
  refine TriE.cond (b := ((decide (9 < a0.length)) && (decide (a0.length ≤ 60))) || (decide (63 < a0.length))) rfl (fun c1 => ?_) (fun c1 => ?_)
  · have h := cond_t h c1
    refine sr [(2, vb false)] [] ?_
    refine TriE.ret ?_
    have h := Option.some.inj h
    subst h
    exact DoneS.ret (S' := ⟨[(2, vb false)], []⟩) Sees.refl rfl rfl
  have h := cond_f h c1
  refine TriE.skip ?_
  refine TriE.seqK h (fun (_ : Unit) => St.mk [] []) ?_ ?_
  · rintro ⟨⟩ h
    refine sr [(2, vb true)] [] ?_
    refine TriE.ret ?_
    have h := Option.some.inj h
    subst h
    exact DoneS.ret (S' := ⟨[(2, vb true)], []⟩) Sees.refl rfl rfl
  intro k3 h
  refine sr [(0, eS 6 eTask a0), (3, vi 0)] [] ?_
  refine TriE.block ?_
  refine TriE.sees (S' := ⟨[(0, eS 6 eTask a0), (3, vi 0)], []⟩) sy ?_
  refine TriE.loopN h (fun (v6 : Nat) => St.mk [(0, eS 6 eTask a0), (3, vi v6)] []) rfl ?_
  clear h
  rintro back v6 h
  dsimp only [agraffelaw08_Few_L3] at h
  refine TriE.seq ?_
  refine sj ?_
  refine rn 2 [(0, eS 6 eTask a0), (3, vi v6), (20, vi v6), (21, eS 6 eTask a0)] [] ?_
  refine jv (vi (a0.length : Int)) (cy (I0 22 (.len 0 (.t 21)))) (ok_len_m rfl) rfl ?_
  refine jv (vb (decide (v6 < a0.length))) (cy (I0 23 (.bin .lss false (.t 20) (.t 22)))) (n_lss (i := v6) (j := a0.length) rfl rfl) rfl ?_
  refine jp [(0, eS 6 eTask a0), (3, vi v6), (23, vb (decide (v6 < a0.length)))] ?_
  refine TriE.cond (b := decide (v6 < a0.length)) rfl (fun c2 => ?_) (fun c2 => ?_)
  · have h := cond_t h c2
    refine TriE.skip ?_
    refine TriE.seqK h (fun (_ : Unit) => St.mk [(0, eS 6 eTask a0), (3, vi v6)] []) ?_ ?_
    · rintro ⟨⟩ h
      refine TriE.regJ ?_
      refine rn 1 [(0, eS 6 eTask a0), (24, vi v6)] [] ?_
      obtain ⟨c12, h⟩ := chk_some h
      refine jv (vi ((v6 + 1 : Nat) : Int)) (cy (I0 25 (.bin .add false (.t 24) (.c (.p (.int .i64 1)))))) (r_addn (i := v6) (j := 1) rfl rfl c12) rfl ?_
      refine jq 1 [(0, eS 6 eTask a0), (3, vi ((v6 + 1 : Nat) : Int))] [] ?_
      exact Vs.intro sy ⟨(v6 + 1), rfl, h⟩
    intro k2 h
    refine TriE.block ?_
    refine sj ?_
    refine rn 2 [(0, eS 6 eTask a0), (3, vi v6), (26, eS 6 eTask a0), (27, vi v6)] [] ?_
    refine jv (.fptr 6 (List.map eTask a0) v6 0) (cy (I0 28 (.iaddr 6 (.t 26) (.t 27)))) (ok_iaddr_m (j := v6) rfl rfl rfl c2) rfl ?_
    refine jv (.agg [vt ((ix a0 v6).Name), vi ((ix a0 v6).Cents), vi ((ix a0 v6).Hours), eS 1 vt ((ix a0 v6).Needs), eS 1 (eS 1 vt) ((ix a0 v6).OneOf), eS 2 ePartCount ((ix a0 v6).Parts)]) (cy (I0 29 (.load true 6 (.t 28)))) (ok_load_fm (v := .agg [vt ((ix a0 v6).Name), vi ((ix a0 v6).Cents), vi ((ix a0 v6).Hours), eS 1 vt ((ix a0 v6).Needs), eS 1 (eS 1 vt) ((ix a0 v6).OneOf), eS 2 ePartCount ((ix a0 v6).Parts)]) rfl c2 rfl) rfl ?_
    refine jq 2 [(0, eS 6 eTask a0), (3, vi v6), (4, .ptr 0 0 0)] [some (.row 6 [.agg [vt ((ix a0 v6).Name), vi ((ix a0 v6).Cents), vi ((ix a0 v6).Hours), eS 1 vt ((ix a0 v6).Needs), eS 1 (eS 1 vt) ((ix a0 v6).OneOf), eS 2 ePartCount ((ix a0 v6).Parts)]])] ?_
    refine TriE.seq ?_
    refine sj ?_
    refine rn 2 [(0, eS 6 eTask a0), (3, vi v6), (4, .ptr 0 0 0), (31, vt ((ix a0 v6).Name))] [some (.row 6 [.agg [vt ((ix a0 v6).Name), vi ((ix a0 v6).Cents), vi ((ix a0 v6).Hours), eS 1 vt ((ix a0 v6).Needs), eS 1 (eS 1 vt) ((ix a0 v6).OneOf), eS 2 ePartCount ((ix a0 v6).Parts)]])] ?_
    refine jv (vi ((((ix a0 v6).Name).length : Nat) : Int)) (cy (I0 32 (.len 1 (.t 31)))) (ok_len_t rfl) rfl ?_
    refine jv (vb (decide (20 < (((ix a0 v6).Name).length)))) (cy (I0 33 (.bin .gtr false (.t 32) (.c (.p (.int .i64 20)))))) (n_gtr (i := ((ix a0 v6).Name).length) (j := 20) rfl rfl) rfl ?_
    refine rn 1 [(0, eS 6 eTask a0), (3, vi v6), (4, .ptr 0 0 0), (34, vb (decide (20 < (((ix a0 v6).Name).length))))] [some (.row 6 [.agg [vt ((ix a0 v6).Name), vi ((ix a0 v6).Cents), vi ((ix a0 v6).Hours), eS 1 vt ((ix a0 v6).Needs), eS 1 (eS 1 vt) ((ix a0 v6).OneOf), eS 2 ePartCount ((ix a0 v6).Parts)]])] ?_
    refine RegJ.op (Op1.valk (v := .ptr 0 0 3) _ _ (cy (IG 35 (.faddr 3 (.t 4)) 34 false)) rfl (by kernel_rfl) (fun hg => (.cons rfl .nil))) ?_
    refine RegJ.op (Op1.valk (v := eS 1 vt ((ix a0 v6).Needs)) _ _ (cy (IG 36 (.load false 1 (.t 35)) 34 false)) rfl (by kernel_rfl) (fun hg => (.cons hg .nil))) ?_
    obtain ⟨y7, hy7, h⟩ := bind_some h
    refine RegJ.op (Op1.callg (g := !(decide (20 < (((ix a0 v6).Name).length)))) (y' := vb y7) (obx := []) _ _ (cy (IG 37 (.call 17 [(.t 36), (.c (.p (.int .i64 13)))]) 34 false)) rfl (fun hg => agraffelaw08_texts_ok n ((ix a0 v6).Needs) 13 y7 (gcall_some hy7 hg)) [] (fun hg => by kernel_rfl) (fun hg => (.cons rfl (.cons hg (.cons rfl .nil)))) (by kernel_rfl) (by kernel_rfl) ObsRen.nil (by kernel_rfl) (by kernel_rfl)) ?_
    refine RegJ.op (Op1.valk (v := vb (!y7)) _ _ (cy (IG 38 (.un .not (.t 37)) 34 false)) rfl (by kernel_rfl) (fun hg => (.cons hg .nil))) ?_
    refine RegJ.op (Op1.or (cy (I0 39 (.pick (.t 34) (.c (.p (.bool true))) (.t 38)))) rfl rfl (by first | exact hokO1 | exact hokO0 | simp)) ?_
    refine rn 1 [(0, eS 6 eTask a0), (3, vi v6), (4, .ptr 0 0 0), (35, .cond (!(decide (20 < (((ix a0 v6).Name).length)))) (.ptr 0 0 3)), (36, .cond (!(decide (20 < (((ix a0 v6).Name).length)))) (eS 1 vt ((ix a0 v6).Needs))), (37, .cond (!(decide (20 < (((ix a0 v6).Name).length)))) (vb y7)), (38, .cond (!(decide (20 < (((ix a0 v6).Name).length)))) (vb (!y7))), (40, vb ((decide (20 < (((ix a0 v6).Name).length))) || (!y7)))] [some (.row 6 [.agg [vt ((ix a0 v6).Name), vi ((ix a0 v6).Cents), vi ((ix a0 v6).Hours), eS 1 vt ((ix a0 v6).Needs), eS 1 (eS 1 vt) ((ix a0 v6).OneOf), eS 2 ePartCount ((ix a0 v6).Parts)]])] ?_
    refine RegJ.op (Op1.valk (v := .ptr 0 0 4) _ _ (cy (IG 41 (.faddr 4 (.t 4)) 40 false)) rfl (by kernel_rfl) (fun hg => (.cons rfl .nil))) ?_
    refine RegJ.op (Op1.valk (v := eS 1 (eS 1 vt) ((ix a0 v6).OneOf)) _ _ (cy (IG 42 (.load false 1 (.t 41)) 40 false)) rfl (by kernel_rfl) (fun hg => (.cons hg .nil))) ?_
    refine RegJ.op (Op1.valg (v := vi ((((ix a0 v6).OneOf).length : Nat) : Int)) _ _ (cy (IG 43 (.len 0 (.t 42)) 40 false)) rfl (fun hg => (ok_len_m rfl)) (fun hg => (.cons hg .nil))) ?_
    refine RegJ.op (Op1.valg (v := vb (decide (9 < (((ix a0 v6).OneOf).length)))) _ _ (cy (IG 44 (.bin .gtr false (.t 43) (.c (.p (.int .i64 9)))) 40 false)) rfl (fun hg => (n_gtr (i := ((ix a0 v6).OneOf).length) (j := 9) rfl rfl)) (fun hg => (.cons hg (.cons rfl .nil)))) ?_
    refine RegJ.op (Op1.or (cy (I0 45 (.pick (.t 40) (.c (.p (.bool true))) (.t 44)))) rfl rfl (by first | exact hokO1 | exact hokO0 | simp)) ?_
    refine rn 1 [(0, eS 6 eTask a0), (3, vi v6), (4, .ptr 0 0 0), (35, .cond (!(decide (20 < (((ix a0 v6).Name).length)))) (.ptr 0 0 3)), (36, .cond (!(decide (20 < (((ix a0 v6).Name).length)))) (eS 1 vt ((ix a0 v6).Needs))), (37, .cond (!(decide (20 < (((ix a0 v6).Name).length)))) (vb y7)), (38, .cond (!(decide (20 < (((ix a0 v6).Name).length)))) (vb (!y7))), (41, .cond (!((decide (20 < (((ix a0 v6).Name).length))) || (!y7))) (.ptr 0 0 4)), (42, .cond (!((decide (20 < (((ix a0 v6).Name).length))) || (!y7))) (eS 1 (eS 1 vt) ((ix a0 v6).OneOf))), (43, .cond (!((decide (20 < (((ix a0 v6).Name).length))) || (!y7))) (vi ((((ix a0 v6).OneOf).length : Nat) : Int))), (44, .cond (!((decide (20 < (((ix a0 v6).Name).length))) || (!y7))) (vb (decide (9 < (((ix a0 v6).OneOf).length))))), (46, vb (((decide (20 < (((ix a0 v6).Name).length))) || (!y7)) || (decide (9 < (((ix a0 v6).OneOf).length)))))] [some (.row 6 [.agg [vt ((ix a0 v6).Name), vi ((ix a0 v6).Cents), vi ((ix a0 v6).Hours), eS 1 vt ((ix a0 v6).Needs), eS 1 (eS 1 vt) ((ix a0 v6).OneOf), eS 2 ePartCount ((ix a0 v6).Parts)]])] ?_
    refine RegJ.op (Op1.valk (v := .ptr 0 0 5) _ _ (cy (IG 47 (.faddr 5 (.t 4)) 46 false)) rfl (by kernel_rfl) (fun hg => (.cons rfl .nil))) ?_
    refine RegJ.op (Op1.valk (v := eS 2 ePartCount ((ix a0 v6).Parts)) _ _ (cy (IG 48 (.load false 1 (.t 47)) 46 false)) rfl (by kernel_rfl) (fun hg => (.cons hg .nil))) ?_
    refine RegJ.op (Op1.valg (v := vi ((((ix a0 v6).Parts).length : Nat) : Int)) _ _ (cy (IG 49 (.len 0 (.t 48)) 46 false)) rfl (fun hg => (ok_len_m rfl)) (fun hg => (.cons hg .nil))) ?_
    refine RegJ.op (Op1.valg (v := vb (decide (13 < (((ix a0 v6).Parts).length)))) _ _ (cy (IG 50 (.bin .gtr false (.t 49) (.c (.p (.int .i64 13)))) 46 false)) rfl (fun hg => (n_gtr (i := ((ix a0 v6).Parts).length) (j := 13) rfl rfl)) (fun hg => (.cons hg (.cons rfl .nil)))) ?_
    refine RegJ.op (Op1.or (cy (I0 51 (.pick (.t 46) (.c (.p (.bool true))) (.t 50)))) rfl rfl (by first | exact hokO1 | exact hokO0 | simp)) ?_
    refine jp [(0, eS 6 eTask a0), (3, vi v6), (4, .ptr 0 0 0), (51, vb ((((decide (20 < (((ix a0 v6).Name).length))) || (!y7)) || (decide (9 < (((ix a0 v6).OneOf).length)))) || (decide (13 < (((ix a0 v6).Parts).length)))))] ?_
    refine TriE.cond (b := (((decide (20 < (((ix a0 v6).Name).length))) || (!y7)) || (decide (9 < (((ix a0 v6).OneOf).length)))) || (decide (13 < (((ix a0 v6).Parts).length)))) rfl (fun c3 => ?_) (fun c3 => ?_)
    · have h := cond_t h c3
      refine sr [(2, vb false)] [some (.row 6 [.agg [vt ((ix a0 v6).Name), vi ((ix a0 v6).Cents), vi ((ix a0 v6).Hours), eS 1 vt ((ix a0 v6).Needs), eS 1 (eS 1 vt) ((ix a0 v6).OneOf), eS 2 ePartCount ((ix a0 v6).Parts)]])] ?_
      refine TriE.ret ?_
      have h := Option.some.inj h
      subst h
      exact DoneS.ret (S' := ⟨[(2, vb false)], []⟩) (sc [] (by decide) (by kernel_rfl) ObRen.nil rfl rfl) rfl rfl
    have h := cond_f h c3
    refine TriE.skip ?_
    refine TriE.seqK h (fun (_ : Unit) => St.mk [(0, eS 6 eTask a0), (3, vi v6), (4, .ptr 0 0 0)] [some (.row 6 [.agg [vt ((ix a0 v6).Name), vi ((ix a0 v6).Cents), vi ((ix a0 v6).Hours), eS 1 vt ((ix a0 v6).Needs), eS 1 (eS 1 vt) ((ix a0 v6).OneOf), eS 2 ePartCount ((ix a0 v6).Parts)]])]) ?_ ?_
    · rintro ⟨⟩ h
      refine sr [(0, eS 6 eTask a0), (3, vi v6), (4, .ptr 0 0 0), (6, vi 0)] [some (.row 6 [.agg [vt ((ix a0 v6).Name), vi ((ix a0 v6).Cents), vi ((ix a0 v6).Hours), eS 1 vt ((ix a0 v6).Needs), eS 1 (eS 1 vt) ((ix a0 v6).OneOf), eS 2 ePartCount ((ix a0 v6).Parts)]])] ?_
      refine TriE.block ?_
      refine TriE.sees (S' := ⟨[(0, eS 6 eTask a0), (3, vi v6), (4, .ptr 0 0 0), (6, vi 0)], [some (.row 6 [.agg [vt ((ix a0 v6).Name), vi ((ix a0 v6).Cents), vi ((ix a0 v6).Hours), eS 1 vt ((ix a0 v6).Needs), eS 1 (eS 1 vt) ((ix a0 v6).OneOf), eS 2 ePartCount ((ix a0 v6).Parts)]])]⟩) sy ?_
      refine TriE.loopN h (fun (v11 : Nat) => St.mk [(0, eS 6 eTask a0), (3, vi v6), (4, .ptr 0 0 0), (6, vi v11)] [some (.row 6 [.agg [vt ((ix a0 v6).Name), vi ((ix a0 v6).Cents), vi ((ix a0 v6).Hours), eS 1 vt ((ix a0 v6).Needs), eS 1 (eS 1 vt) ((ix a0 v6).OneOf), eS 2 ePartCount ((ix a0 v6).Parts)]])]) rfl ?_
      clear h
      rintro back v11 h
      dsimp only [agraffelaw08_Few_L2] at h
      refine TriE.seq ?_
      refine sj ?_
      refine rn 3 [(0, eS 6 eTask a0), (3, vi v6), (4, .ptr 0 0 0), (6, vi v11), (66, vi v11), (68, eS 2 ePartCount ((ix a0 v6).Parts))] [some (.row 6 [.agg [vt ((ix a0 v6).Name), vi ((ix a0 v6).Cents), vi ((ix a0 v6).Hours), eS 1 vt ((ix a0 v6).Needs), eS 1 (eS 1 vt) ((ix a0 v6).OneOf), eS 2 ePartCount ((ix a0 v6).Parts)]])] ?_
      refine jv (vi ((((ix a0 v6).Parts).length : Nat) : Int)) (cy (I0 69 (.len 0 (.t 68)))) (ok_len_m rfl) rfl ?_
      refine jv (vb (decide (v11 < (((ix a0 v6).Parts).length)))) (cy (I0 70 (.bin .lss false (.t 66) (.t 69)))) (n_lss (i := v11) (j := ((ix a0 v6).Parts).length) rfl rfl) rfl ?_
      refine jp [(0, eS 6 eTask a0), (3, vi v6), (4, .ptr 0 0 0), (6, vi v11), (70, vb (decide (v11 < (((ix a0 v6).Parts).length))))] ?_
      refine TriE.cond (b := decide (v11 < (((ix a0 v6).Parts).length))) rfl (fun c8 => ?_) (fun c8 => ?_)
      · have h := cond_t h c8
        refine TriE.skip ?_
        refine TriE.seq ?_
        refine TriE.block ?_
        refine sj ?_
        refine rn 3 [(0, eS 6 eTask a0), (3, vi v6), (4, .ptr 0 0 0), (6, vi v11), (74, eS 2 ePartCount ((ix a0 v6).Parts)), (75, vi v11)] [some (.row 6 [.agg [vt ((ix a0 v6).Name), vi ((ix a0 v6).Cents), vi ((ix a0 v6).Hours), eS 1 vt ((ix a0 v6).Needs), eS 1 (eS 1 vt) ((ix a0 v6).OneOf), eS 2 ePartCount ((ix a0 v6).Parts)]])] ?_
        obtain ⟨c9, h⟩ := chk_some h
        refine jv (.fptr 2 (List.map ePartCount ((ix a0 v6).Parts)) v11 0) (cy (I0 76 (.iaddr 2 (.t 74) (.t 75)))) (ok_iaddr_m (j := v11) rfl rfl rfl c9) rfl ?_
        refine rn 1 [(0, eS 6 eTask a0), (3, vi v6), (4, .ptr 0 0 0), (6, vi v11), (77, .fptr 2 (List.map ePartCount ((ix a0 v6).Parts)) v11 0)] [some (.row 6 [.agg [vt ((ix a0 v6).Name), vi ((ix a0 v6).Cents), vi ((ix a0 v6).Hours), eS 1 vt ((ix a0 v6).Needs), eS 1 (eS 1 vt) ((ix a0 v6).OneOf), eS 2 ePartCount ((ix a0 v6).Parts)]])] ?_
        refine jv (vt ((ix ((ix a0 v6).Parts) v11).Part)) (cy (I0 78 (.load false 1 (.t 77)))) (ok_load_fm (v := vt ((ix ((ix a0 v6).Parts) v11).Part)) rfl c9 rfl) rfl ?_
        refine jv (vi ((((ix ((ix a0 v6).Parts) v11).Part).length : Nat) : Int)) (cy (I0 79 (.len 1 (.t 78)))) (ok_len_t rfl) rfl ?_
        refine jv (vb (decide (20 < (((ix ((ix a0 v6).Parts) v11).Part).length)))) (cy (I0 80 (.bin .gtr false (.t 79) (.c (.p (.int .i64 20)))))) (n_gtr (i := ((ix ((ix a0 v6).Parts) v11).Part).length) (j := 20) rfl rfl) rfl ?_
        refine jp [(0, eS 6 eTask a0), (3, vi v6), (4, .ptr 0 0 0), (6, vi v11), (80, vb (decide (20 < (((ix ((ix a0 v6).Parts) v11).Part).length))))] ?_
        refine TriE.cond (b := decide (20 < (((ix ((ix a0 v6).Parts) v11).Part).length))) rfl (fun c10 => ?_) (fun c10 => ?_)
        · have h := cond_t h c10
          refine sr [(2, vb false)] [some (.row 6 [.agg [vt ((ix a0 v6).Name), vi ((ix a0 v6).Cents), vi ((ix a0 v6).Hours), eS 1 vt ((ix a0 v6).Needs), eS 1 (eS 1 vt) ((ix a0 v6).OneOf), eS 2 ePartCount ((ix a0 v6).Parts)]])] ?_
          refine TriE.ret ?_
          have h := Option.some.inj h
          subst h
          exact DoneS.ret (S' := ⟨[(2, vb false)], []⟩) (sc [] (by decide) (by kernel_rfl) ObRen.nil rfl rfl) rfl rfl
        have h := cond_f h c10
        refine TriE.skip ?_
        refine TriE.regJ ?_
        refine rn 1 [(0, eS 6 eTask a0), (3, vi v6), (4, .ptr 0 0 0), (71, vi v11)] [some (.row 6 [.agg [vt ((ix a0 v6).Name), vi ((ix a0 v6).Cents), vi ((ix a0 v6).Hours), eS 1 vt ((ix a0 v6).Needs), eS 1 (eS 1 vt) ((ix a0 v6).OneOf), eS 2 ePartCount ((ix a0 v6).Parts)]])] ?_
        obtain ⟨c11, h⟩ := chk_some h
        refine jv (vi ((v11 + 1 : Nat) : Int)) (cy (I0 72 (.bin .add false (.t 71) (.c (.p (.int .i64 1)))))) (r_addn (i := v11) (j := 1) rfl rfl c11) rfl ?_
        refine jq 1 [(0, eS 6 eTask a0), (3, vi v6), (4, .ptr 0 0 0), (6, vi ((v11 + 1 : Nat) : Int))] [some (.row 6 [.agg [vt ((ix a0 v6).Name), vi ((ix a0 v6).Cents), vi ((ix a0 v6).Hours), eS 1 vt ((ix a0 v6).Needs), eS 1 (eS 1 vt) ((ix a0 v6).OneOf), eS 2 ePartCount ((ix a0 v6).Parts)]])] ?_
        exact Vs.intro sy ⟨(v11 + 1), rfl, h⟩
      have h := cond_f h c8
      refine TriE.exit ?_
      exact Vs.intro (sc [] (by decide) (by kernel_rfl) ObRen.nil rfl rfl) ⟨(), rfl, h⟩
    intro k1 h
    refine sr [(0, eS 6 eTask a0), (3, vi v6), (4, .ptr 0 0 0), (5, vi 0)] [some (.row 6 [.agg [vt ((ix a0 v6).Name), vi ((ix a0 v6).Cents), vi ((ix a0 v6).Hours), eS 1 vt ((ix a0 v6).Needs), eS 1 (eS 1 vt) ((ix a0 v6).OneOf), eS 2 ePartCount ((ix a0 v6).Parts)]])] ?_
    refine TriE.block ?_
    refine TriE.sees (S' := ⟨[(0, eS 6 eTask a0), (3, vi v6), (4, .ptr 0 0 0), (5, vi 0)], [some (.row 6 [.agg [vt ((ix a0 v6).Name), vi ((ix a0 v6).Cents), vi ((ix a0 v6).Hours), eS 1 vt ((ix a0 v6).Needs), eS 1 (eS 1 vt) ((ix a0 v6).OneOf), eS 2 ePartCount ((ix a0 v6).Parts)]])]⟩) sy ?_
    refine TriE.loopN h (fun (v9 : Nat) => St.mk [(0, eS 6 eTask a0), (3, vi v6), (4, .ptr 0 0 0), (5, vi v9)] [some (.row 6 [.agg [vt ((ix a0 v6).Name), vi ((ix a0 v6).Cents), vi ((ix a0 v6).Hours), eS 1 vt ((ix a0 v6).Needs), eS 1 (eS 1 vt) ((ix a0 v6).OneOf), eS 2 ePartCount ((ix a0 v6).Parts)]])]) rfl ?_
    clear h
    rintro back v9 h
    dsimp only [agraffelaw08_Few_L1] at h
    refine TriE.seq ?_
    refine sj ?_
    refine rn 3 [(0, eS 6 eTask a0), (3, vi v6), (4, .ptr 0 0 0), (5, vi v9), (52, vi v9), (54, eS 1 (eS 1 vt) ((ix a0 v6).OneOf))] [some (.row 6 [.agg [vt ((ix a0 v6).Name), vi ((ix a0 v6).Cents), vi ((ix a0 v6).Hours), eS 1 vt ((ix a0 v6).Needs), eS 1 (eS 1 vt) ((ix a0 v6).OneOf), eS 2 ePartCount ((ix a0 v6).Parts)]])] ?_
    refine jv (vi ((((ix a0 v6).OneOf).length : Nat) : Int)) (cy (I0 55 (.len 0 (.t 54)))) (ok_len_m rfl) rfl ?_
    refine jv (vb (decide (v9 < (((ix a0 v6).OneOf).length)))) (cy (I0 56 (.bin .lss false (.t 52) (.t 55)))) (n_lss (i := v9) (j := ((ix a0 v6).OneOf).length) rfl rfl) rfl ?_
    refine jp [(0, eS 6 eTask a0), (3, vi v6), (4, .ptr 0 0 0), (5, vi v9), (56, vb (decide (v9 < (((ix a0 v6).OneOf).length))))] ?_
    refine TriE.cond (b := decide (v9 < (((ix a0 v6).OneOf).length))) rfl (fun c4 => ?_) (fun c4 => ?_)
    · have h := cond_t h c4
      refine TriE.skip ?_
      refine TriE.seq ?_
      refine TriE.block ?_
      refine sj ?_
      refine rn 3 [(0, eS 6 eTask a0), (3, vi v6), (4, .ptr 0 0 0), (5, vi v9), (60, eS 1 (eS 1 vt) ((ix a0 v6).OneOf)), (61, vi v9)] [some (.row 6 [.agg [vt ((ix a0 v6).Name), vi ((ix a0 v6).Cents), vi ((ix a0 v6).Hours), eS 1 vt ((ix a0 v6).Needs), eS 1 (eS 1 vt) ((ix a0 v6).OneOf), eS 2 ePartCount ((ix a0 v6).Parts)]])] ?_
      obtain ⟨c5, h⟩ := chk_some h
      refine jv (.fptr 1 (List.map (eS 1 vt) ((ix a0 v6).OneOf)) v9 0) (cy (I0 62 (.iaddr 1 (.t 60) (.t 61)))) (ok_iaddr_m (j := v9) rfl rfl rfl c5) rfl ?_
      refine jv (eS 1 vt (ix ((ix a0 v6).OneOf) v9)) (cy (I0 63 (.load false 1 (.t 62)))) (ok_load_fm (v := eS 1 vt (ix ((ix a0 v6).OneOf) v9)) rfl c5 rfl) rfl ?_
      obtain ⟨y10, hy10, h⟩ := bind_some h
      refine RegJ.op (Op1.call (y' := vb y10) (obx := []) (oby := []) (ob2 := [some (.row 6 [.agg [vt ((ix a0 v6).Name), vi ((ix a0 v6).Cents), vi ((ix a0 v6).Hours), eS 1 vt ((ix a0 v6).Needs), eS 1 (eS 1 vt) ((ix a0 v6).OneOf), eS 2 ePartCount ((ix a0 v6).Parts)]])]) _ _ (cy (I0 64 (.call 17 [(.t 63), (.c (.p (.int .i64 9)))]))) rfl (agraffelaw08_texts_ok n (ix ((ix a0 v6).OneOf) v9) 9 y10 hy10) [] (by kernel_rfl) (.cons rfl (.cons rfl (.cons rfl .nil))) (by kernel_rfl) (by kernel_rfl) ObsRen.nil (by kernel_rfl) ObsRen.nil (by kernel_rfl)) ?_
      refine jq 1 [(0, eS 6 eTask a0), (3, vi v6), (4, .ptr 0 0 0), (5, vi v9), (65, vb (!y10))] [some (.row 6 [.agg [vt ((ix a0 v6).Name), vi ((ix a0 v6).Cents), vi ((ix a0 v6).Hours), eS 1 vt ((ix a0 v6).Needs), eS 1 (eS 1 vt) ((ix a0 v6).OneOf), eS 2 ePartCount ((ix a0 v6).Parts)]])] ?_
      refine TriE.cond (b := !y10) rfl (fun c6 => ?_) (fun c6 => ?_)
      · have h := cond_t h c6
        refine sr [(2, vb false)] [some (.row 6 [.agg [vt ((ix a0 v6).Name), vi ((ix a0 v6).Cents), vi ((ix a0 v6).Hours), eS 1 vt ((ix a0 v6).Needs), eS 1 (eS 1 vt) ((ix a0 v6).OneOf), eS 2 ePartCount ((ix a0 v6).Parts)]])] ?_
        refine TriE.ret ?_
        have h := Option.some.inj h
        subst h
        exact DoneS.ret (S' := ⟨[(2, vb false)], []⟩) (sc [] (by decide) (by kernel_rfl) ObRen.nil rfl rfl) rfl rfl
      have h := cond_f h c6
      refine TriE.skip ?_
      refine TriE.regJ ?_
      refine rn 1 [(0, eS 6 eTask a0), (3, vi v6), (4, .ptr 0 0 0), (57, vi v9)] [some (.row 6 [.agg [vt ((ix a0 v6).Name), vi ((ix a0 v6).Cents), vi ((ix a0 v6).Hours), eS 1 vt ((ix a0 v6).Needs), eS 1 (eS 1 vt) ((ix a0 v6).OneOf), eS 2 ePartCount ((ix a0 v6).Parts)]])] ?_
      obtain ⟨c7, h⟩ := chk_some h
      refine jv (vi ((v9 + 1 : Nat) : Int)) (cy (I0 58 (.bin .add false (.t 57) (.c (.p (.int .i64 1)))))) (r_addn (i := v9) (j := 1) rfl rfl c7) rfl ?_
      refine jq 1 [(0, eS 6 eTask a0), (3, vi v6), (4, .ptr 0 0 0), (5, vi ((v9 + 1 : Nat) : Int))] [some (.row 6 [.agg [vt ((ix a0 v6).Name), vi ((ix a0 v6).Cents), vi ((ix a0 v6).Hours), eS 1 vt ((ix a0 v6).Needs), eS 1 (eS 1 vt) ((ix a0 v6).OneOf), eS 2 ePartCount ((ix a0 v6).Parts)]])] ?_
      exact Vs.intro sy ⟨(v9 + 1), rfl, h⟩
    have h := cond_f h c4
    refine TriE.exit ?_
    exact Vs.intro sy ⟨(), rfl, h⟩
  have h := cond_f h c2
  refine TriE.exit ?_
  exact Vs.intro sy ⟨(), rfl, h⟩
theorem agraffelaw08_stocked_ok (n : Nat) (a0 : List Stocked) (r : Bool) (h : agraffelaw08_stocked n a0 = some r) : FnL Tryz.prog 16 [eS 3 eStocked a0] [] (vb r) [] := by
  dsimp only [agraffelaw08_stocked] at h
  refine FnL.ofS (ts := [2]) Tryz.call16 Tryz.func16 rfl rfl (Nat.le_of_ble_eq_true rfl) (Nat.le_of_ble_eq_true rfl) (fun j h => absurd h (Nat.not_lt_zero j)) ?_
  refine sr [(0, eS 3 eStocked a0)] [] ?_
  refine TriE.seq ?_
  refine sj ?_
  refine rn 1 [(0, eS 3 eStocked a0), (4, eS 3 eStocked a0)] [] ?_
  refine jv (vi (a0.length : Int)) (cy (I0 5 (.len 0 (.t 4)))) (ok_len_m rfl) rfl ?_
  refine jv (vb (decide (8 < a0.length))) (cy (I0 6 (.bin .gtr false (.t 5) (.c (.p (.int .i64 8)))))) (n_gtr (i := a0.length) (j := 8) rfl rfl) rfl ?_
  refine rn 1 [(0, eS 3 eStocked a0), (7, vb (decide (8 < a0.length)))] [] ?_
  refine RegJ.op (Op1.valk (v := eS 3 eStocked a0) _ _ (cy (IG 8 (.mov (.t 0)) 7 true)) rfl (by kernel_rfl) (fun hg => (.cons rfl .nil))) ?_
  refine RegJ.op (Op1.valg (v := vi (a0.length : Int)) _ _ (cy (IG 9 (.len 0 (.t 8)) 7 true)) rfl (fun hg => (ok_len_m rfl)) (fun hg => (.cons hg .nil))) ?_
  refine RegJ.op (Op1.valg (v := vb (decide (a0.length ≤ 60))) _ _ (cy (IG 10 (.bin .leq false (.t 9) (.c (.p (.int .i64 60)))) 7 true)) rfl (fun hg => (n_leq (i := a0.length) (j := 60) rfl rfl)) (fun hg => (.cons hg (.cons rfl .nil)))) ?_
  refine RegJ.op (Op1.and (cy (I0 11 (.pick (.t 7) (.t 10) (.c (.p (.bool false)))))) rfl rfl (by first | exact hokA1 | exact hokA0 | simp)) ?_
  refine rn 1 [(0, eS 3 eStocked a0), (12, vb ((decide (8 < a0.length)) && (decide (a0.length ≤ 60))))] [] ?_
  refine RegJ.op (Op1.valk (v := eS 3 eStocked a0) _ _ (cy (IG 13 (.mov (.t 0)) 12 false)) rfl (by kernel_rfl) (fun hg => (.cons rfl .nil))) ?_
  refine RegJ.op (Op1.valg (v := vi (a0.length : Int)) _ _ (cy (IG 14 (.len 0 (.t 13)) 12 false)) rfl (fun hg => (ok_len_m rfl)) (fun hg => (.cons hg .nil))) ?_
  refine RegJ.op (Op1.valg (v := vb (decide (63 < a0.length))) _ _ (cy (IG 15 (.bin .gtr false (.t 14) (.c (.p (.int .i64 63)))) 12 false)) rfl (fun hg => (n_gtr (i := a0.length) (j := 63) rfl rfl)) (fun hg => (.cons hg (.cons rfl .nil)))) ?_
  refine RegJ.op (Op1.or (cy (I0 16 (.pick (.t 12) (.c (.p (.bool true))) (.t 15)))) rfl rfl (by first | exact hokO1 | exact hokO0 | simp)) ?_
  refine jp [(0, eS 3 eStocked a0), (16, vb (((decide (8 < a0.length)) && (decide (a0.length ≤ 60))) || (decide (63 < a0.length))))] ?_
  refine TriE.cond (b := ((decide (8 < a0.length)) && (decide (a0.length ≤ 60))) || (decide (63 < a0.length))) rfl (fun c1 => ?_) (fun c1 => ?_)
  · have h := cond_t h c1
    refine sr [(2, vb false)] [] ?_
    refine TriE.ret ?_
    have h := Option.some.inj h
    subst h
    exact DoneS.ret (S' := ⟨[(2, vb false)], []⟩) Sees.refl rfl rfl
  have h := cond_f h c1
  refine TriE.skip ?_
  refine TriE.seqK h (fun (_ : Unit) => St.mk [] []) ?_ ?_
  · rintro ⟨⟩ h
    refine sr [(2, vb true)] [] ?_
    refine TriE.ret ?_
    have h := Option.some.inj h
    subst h
    exact DoneS.ret (S' := ⟨[(2, vb true)], []⟩) Sees.refl rfl rfl
  intro k1 h
  refine sr [(0, eS 3 eStocked a0), (3, vi 0)] [] ?_
  refine TriE.block ?_
  refine TriE.sees (S' := ⟨[(0, eS 3 eStocked a0), (3, vi 0)], []⟩) sy ?_
  refine TriE.loopN h (fun (v1 : Nat) => St.mk [(0, eS 3 eStocked a0), (3, vi v1)] []) rfl ?_
  clear h
  rintro back v1 h
  dsimp only [agraffelaw08_stocked_L1] at h
  refine TriE.seq ?_
  refine sj ?_
  refine rn 2 [(0, eS 3 eStocked a0), (3, vi v1), (17, vi v1), (18, eS 3 eStocked a0)] [] ?_
  refine jv (vi (a0.length : Int)) (cy (I0 19 (.len 0 (.t 18)))) (ok_len_m rfl) rfl ?_
  refine jv (vb (decide (v1 < a0.length))) (cy (I0 20 (.bin .lss false (.t 17) (.t 19)))) (n_lss (i := v1) (j := a0.length) rfl rfl) rfl ?_
  refine jp [(0, eS 3 eStocked a0), (3, vi v1), (20, vb (decide (v1 < a0.length)))] ?_
  refine TriE.cond (b := decide (v1 < a0.length)) rfl (fun c2 => ?_) (fun c2 => ?_)
  · have h := cond_t h c2
    refine TriE.skip ?_
    refine TriE.seq ?_
    refine TriE.block ?_
    refine sj ?_
    refine rn 2 [(0, eS 3 eStocked a0), (3, vi v1), (23, eS 3 eStocked a0), (24, vi v1)] [] ?_
    refine jv (.fptr 3 (List.map eStocked a0) v1 0) (cy (I0 25 (.iaddr 3 (.t 23) (.t 24)))) (ok_iaddr_m (j := v1) rfl rfl rfl c2) rfl ?_
    refine rn 1 [(0, eS 3 eStocked a0), (3, vi v1), (26, .fptr 3 (List.map eStocked a0) v1 0)] [] ?_
    refine jv (vt ((ix a0 v1).Part)) (cy (I0 27 (.load false 1 (.t 26)))) (ok_load_fm (v := vt ((ix a0 v1).Part)) rfl c2 rfl) rfl ?_
    refine jv (vi ((((ix a0 v1).Part).length : Nat) : Int)) (cy (I0 28 (.len 1 (.t 27)))) (ok_len_t rfl) rfl ?_
    refine jv (vb (decide (20 < (((ix a0 v1).Part).length)))) (cy (I0 29 (.bin .gtr false (.t 28) (.c (.p (.int .i64 20)))))) (n_gtr (i := ((ix a0 v1).Part).length) (j := 20) rfl rfl) rfl ?_
    refine jp [(0, eS 3 eStocked a0), (3, vi v1), (29, vb (decide (20 < (((ix a0 v1).Part).length))))] ?_
    refine TriE.cond (b := decide (20 < (((ix a0 v1).Part).length))) rfl (fun c3 => ?_) (fun c3 => ?_)
    · have h := cond_t h c3
      refine sr [(2, vb false)] [] ?_
      refine TriE.ret ?_
      have h := Option.some.inj h
      subst h
      exact DoneS.ret (S' := ⟨[(2, vb false)], []⟩) Sees.refl rfl rfl
    have h := cond_f h c3
    refine TriE.skip ?_
    refine TriE.regJ ?_
    refine rn 1 [(0, eS 3 eStocked a0), (21, vi v1)] [] ?_
    obtain ⟨c4, h⟩ := chk_some h
    refine jv (vi ((v1 + 1 : Nat) : Int)) (cy (I0 22 (.bin .add false (.t 21) (.c (.p (.int .i64 1)))))) (r_addn (i := v1) (j := 1) rfl rfl c4) rfl ?_
    refine jq 1 [(0, eS 3 eStocked a0), (3, vi ((v1 + 1 : Nat) : Int))] [] ?_
    exact Vs.intro sy ⟨(v1 + 1), rfl, h⟩
  have h := cond_f h c2
  refine TriE.exit ?_
  exact Vs.intro sy ⟨(), rfl, h⟩
theorem agraffebase_CopyTexts_ok (n : Nat) (a0 : List Str) (r : Unit) (h : agraffebase_CopyTexts n a0 = some r) : FnL Tryz.prog 18 [eS 1 vt a0] [] (eS 1 vt a0) [] := by
  dsimp only [agraffebase_CopyTexts] at h
  refine FnL.ofS (ts := [2]) Tryz.call18 Tryz.func18 rfl rfl (Nat.le_of_ble_eq_true rfl) (Nat.le_of_ble_eq_true rfl) (fun j h => absurd h (Nat.not_lt_zero j)) ?_
  refine sr [(0, eS 1 vt a0)] [] ?_
  refine sj ?_
  refine rn 2 [(3, .emp), (4, eS 1 vt a0)] [] ?_
  obtain ⟨c1, h⟩ := chk_some h
  refine je (.own 0 0 a0.length) [some (.row 1 (List.map vt a0))] (cy (I0 5 (.app 1 16 (.t 3) (.t 4)))) (ok_app_emp (e := vt) (l := a0) (u := eS 1 vt a0) rfl rfl els_sl c1) rfl rfl rfl ?_
  refine jq 1 [(2, .own 0 0 a0.length)] [some (.row 1 (List.map vt a0))] ?_
  refine TriE.ret ?_
  have h := Option.some.inj h
  subst h
  exact DoneS.ret (S' := ⟨[(2, eS 1 vt a0)], []⟩) (Sees.trans (Sees.freeze 0 (fr' := [(2, eS 1 vt a0)]) (ob' := [none]) rfl (frz_row vt_frzE _) (.cons (frz_full rfl) .nil) rfl) (sc [] (by decide) (by kernel_rfl) ObRen.nil rfl rfl)) rfl rfl
theorem agraffebase_CopyTexts_2_ok (n : Nat) (a0 : List Str) (r : Unit) (h : agraffebase_CopyTexts_2 n a0 = some r) : FnL Tryz.prog 18 [eS 1 vt a0] [] (.own 0 0 a0.length) [some (.row 1 (List.map vt a0))] := by
  dsimp only [agraffebase_CopyTexts_2] at h
  refine FnL.ofS (ts := [2]) Tryz.call18 Tryz.func18 rfl rfl (Nat.le_of_ble_eq_true rfl) (Nat.le_of_ble_eq_true rfl) (fun j h => absurd h (Nat.not_lt_zero j)) ?_
  refine sr [(0, eS 1 vt a0)] [] ?_
  refine sj ?_
  refine rn 2 [(3, .emp), (4, eS 1 vt a0)] [] ?_
  obtain ⟨c1, h⟩ := chk_some h
  refine je (.own 0 0 a0.length) [some (.row 1 (List.map vt a0))] (cy (I0 5 (.app 1 16 (.t 3) (.t 4)))) (ok_app_emp (e := vt) (l := a0) (u := eS 1 vt a0) rfl rfl els_sl c1) rfl rfl rfl ?_
  refine jq 1 [(2, .own 0 0 a0.length)] [some (.row 1 (List.map vt a0))] ?_
  refine TriE.ret ?_
  have h := Option.some.inj h
  subst h
  exact DoneS.ret (S' := ⟨[(2, .own 0 0 a0.length)], [some (.row 1 (List.map vt a0))]⟩) Sees.refl rfl rfl
theorem agraffelaw08_Copied_ok (n : Nat) (a0 : List Task) (r : (List Task)) (h : agraffelaw08_Copied n a0 = some r) : FnL Tryz.prog 20 [eS 6 eTask a0] [] (eS 6 eTask r) [] := by
  dsimp only [agraffelaw08_Copied] at h
  refine FnL.ofS (ts := [2]) Tryz.call20 Tryz.func20 rfl rfl (Nat.le_of_ble_eq_true rfl) (Nat.le_of_ble_eq_true rfl) (fun j h => absurd h (Nat.not_lt_zero j)) ?_
  refine sr [(0, eS 6 eTask a0)] [] ?_
  refine sj ?_
  refine rn 2 [(7, .emp), (8, eS 6 eTask a0)] [] ?_
  obtain ⟨c1, h⟩ := chk_some h
  refine je (.own 0 0 a0.length) [some (.row 6 (List.map eTask a0))] (cy (I0 9 (.app 6 104 (.t 7) (.t 8)))) (ok_app_emp (e := eTask) (l := a0) (u := eS 6 eTask a0) rfl rfl els_sl c1) rfl rfl rfl ?_
  refine jq 1 [(3, .own 0 0 a0.length)] [some (.row 6 (List.map eTask a0))] ?_
  refine TriE.seqK h (fun (v15 : (List Task)) => St.mk [(3, .own 0 0 v15.length)] [some (.row 6 (List.map eTask v15))]) ?_ ?_
  · rintro v15 h
    refine sr [(2, .own 0 0 v15.length)] [some (.row 6 (List.map eTask v15))] ?_
    refine TriE.ret ?_
    have h := Option.some.inj h
    subst h
    exact DoneS.ret (S' := ⟨[(2, eS 6 eTask v15)], []⟩) (Sees.trans (Sees.freeze 0 (fr' := [(2, eS 6 eTask v15)]) (ob' := [none]) rfl (frz_row eTask_frzE _) (.cons (frz_full rfl) .nil) rfl) (sc [] (by decide) (by kernel_rfl) ObRen.nil rfl rfl)) rfl rfl
  intro k2 h
  refine sr [(3, .own 0 0 a0.length), (4, vi 0)] [some (.row 6 (List.map eTask a0))] ?_
  refine TriE.block ?_
  refine TriE.sees (S' := ⟨[(3, .own 0 0 a0.length), (4, vi 0)], [some (.row 6 (List.map eTask a0))]⟩) sy ?_
  refine TriE.loopN h (fun (t : Nat × (List Task)) => match t with | (v7, v8) => St.mk [(3, .own 0 0 v8.length), (4, vi v7)] [some (.row 6 (List.map eTask v8))]) rfl ?_
  clear h
  rintro back ⟨v7, v8⟩ h
  dsimp only [agraffelaw08_Copied_L2] at h
  refine TriE.seq ?_
  refine sj ?_
  refine rn 3 [(3, .own 0 0 v8.length), (4, vi v7), (10, vi v7), (12, vi (v8.length : Int))] [some (.row 6 (List.map eTask v8))] ?_
  refine jv (vb (decide (v7 < v8.length))) (cy (I0 13 (.bin .lss false (.t 10) (.t 12)))) (n_lss (i := v7) (j := v8.length) rfl rfl) rfl ?_
  refine jp [(3, .own 0 0 v8.length), (4, vi v7), (13, vb (decide (v7 < v8.length)))] ?_
  refine TriE.cond (b := decide (v7 < v8.length)) rfl (fun c2 => ?_) (fun c2 => ?_)
  · have h := cond_t h c2
    refine TriE.skip ?_
    refine TriE.seqK h (fun (v14 : (List (List Str))) => St.mk [(3, .own 0 0 v8.length), (4, vi v7)] [some (.row 6 (List.set (List.map eTask (List.set (List.set v8 v7 (ix v8 v7)) v7 (ix (List.set v8 v7 (ix v8 v7)) v7))) v7 (.agg [vt ((ix (List.set (List.set v8 v7 (ix v8 v7)) v7 (ix (List.set v8 v7 (ix v8 v7)) v7)) v7).Name), vi ((ix (List.set (List.set v8 v7 (ix v8 v7)) v7 (ix (List.set v8 v7 (ix v8 v7)) v7)) v7).Cents), vi ((ix (List.set (List.set v8 v7 (ix v8 v7)) v7 (ix (List.set v8 v7 (ix v8 v7)) v7)) v7).Hours), eS 1 vt ((ix (List.set (List.set v8 v7 (ix v8 v7)) v7 (ix (List.set v8 v7 (ix v8 v7)) v7)) v7).Needs), .own 1 0 v14.length, eS 2 ePartCount ((ix (List.set (List.set v8 v7 (ix v8 v7)) v7 (ix (List.set v8 v7 (ix v8 v7)) v7)) v7).Parts)]))), some (.row 1 (List.map (eS 1 vt) v14))]) ?_ ?_
    · rintro v14 h
      refine TriE.regJ ?_
      refine rn 1 [(3, .own 0 0 v8.length), (14, vi v7)] [some (.row 6 (List.set (List.map eTask (List.set (List.set v8 v7 (ix v8 v7)) v7 (ix (List.set v8 v7 (ix v8 v7)) v7))) v7 (.agg [vt ((ix (List.set (List.set v8 v7 (ix v8 v7)) v7 (ix (List.set v8 v7 (ix v8 v7)) v7)) v7).Name), vi ((ix (List.set (List.set v8 v7 (ix v8 v7)) v7 (ix (List.set v8 v7 (ix v8 v7)) v7)) v7).Cents), vi ((ix (List.set (List.set v8 v7 (ix v8 v7)) v7 (ix (List.set v8 v7 (ix v8 v7)) v7)) v7).Hours), eS 1 vt ((ix (List.set (List.set v8 v7 (ix v8 v7)) v7 (ix (List.set v8 v7 (ix v8 v7)) v7)) v7).Needs), .own 1 0 v14.length, eS 2 ePartCount ((ix (List.set (List.set v8 v7 (ix v8 v7)) v7 (ix (List.set v8 v7 (ix v8 v7)) v7)) v7).Parts)]))), some (.row 1 (List.map (eS 1 vt) v14))] ?_
      obtain ⟨c10, h⟩ := chk_some h
      refine jv (vi ((v7 + 1 : Nat) : Int)) (cy (I0 15 (.bin .add false (.t 14) (.c (.p (.int .i64 1)))))) (r_addn (i := v7) (j := 1) rfl rfl c10) rfl ?_
      refine jq 1 [(3, .own 0 0 v8.length), (4, vi ((v7 + 1 : Nat) : Int))] [some (.row 6 (List.set (List.map eTask (List.set (List.set v8 v7 (ix v8 v7)) v7 (ix (List.set v8 v7 (ix v8 v7)) v7))) v7 (.agg [vt ((ix (List.set (List.set v8 v7 (ix v8 v7)) v7 (ix (List.set v8 v7 (ix v8 v7)) v7)) v7).Name), vi ((ix (List.set (List.set v8 v7 (ix v8 v7)) v7 (ix (List.set v8 v7 (ix v8 v7)) v7)) v7).Cents), vi ((ix (List.set (List.set v8 v7 (ix v8 v7)) v7 (ix (List.set v8 v7 (ix v8 v7)) v7)) v7).Hours), eS 1 vt ((ix (List.set (List.set v8 v7 (ix v8 v7)) v7 (ix (List.set v8 v7 (ix v8 v7)) v7)) v7).Needs), .own 1 0 v14.length, eS 2 ePartCount ((ix (List.set (List.set v8 v7 (ix v8 v7)) v7 (ix (List.set v8 v7 (ix v8 v7)) v7)) v7).Parts)]))), some (.row 1 (List.map (eS 1 vt) v14))] ?_
      exact Vs.intro (Sees.trans (Sees.freezeO 1 (fr' := [(3, .own 0 0 v8.length), (4, vi ((v7 + 1 : Nat) : Int))]) (ob' := [some (.row 6 (List.set (List.map eTask (List.set (List.set v8 v7 (ix v8 v7)) v7 (ix (List.set v8 v7 (ix v8 v7)) v7))) v7 (.agg [vt ((ix (List.set (List.set v8 v7 (ix v8 v7)) v7 (ix (List.set v8 v7 (ix v8 v7)) v7)) v7).Name), vi ((ix (List.set (List.set v8 v7 (ix v8 v7)) v7 (ix (List.set v8 v7 (ix v8 v7)) v7)) v7).Cents), vi ((ix (List.set (List.set v8 v7 (ix v8 v7)) v7 (ix (List.set v8 v7 (ix v8 v7)) v7)) v7).Hours), eS 1 vt ((ix (List.set (List.set v8 v7 (ix v8 v7)) v7 (ix (List.set v8 v7 (ix v8 v7)) v7)) v7).Needs), eS 1 (eS 1 vt) v14, eS 2 ePartCount ((ix (List.set (List.set v8 v7 (ix v8 v7)) v7 (ix (List.set v8 v7 (ix v8 v7)) v7)) v7).Parts)]))), none]) rfl (frz_row (eS_frzE 1 vt) _) (.cons (.refl _) (.cons (.refl _) .nil)) (.cons (objFrz_set (fun _ => rfl) (.cons (.refl _) (.cons (.refl _) (.cons (.refl _) (.cons (.refl _) (.cons (frz_full rfl) (.cons (.refl _) .nil)))))) rfl) (.cons .same .nil))) (Sees.trans (Sees.obco (ob' := [some (.row 6 (List.map eTask (List.set (List.set (List.set v8 v7 (ix v8 v7)) v7 (ix (List.set v8 v7 (ix v8 v7)) v7)) v7 (Task.mk ((ix (List.set (List.set v8 v7 (ix v8 v7)) v7 (ix (List.set v8 v7 (ix v8 v7)) v7)) v7).Name) ((ix (List.set (List.set v8 v7 (ix v8 v7)) v7 (ix (List.set v8 v7 (ix v8 v7)) v7)) v7).Cents) ((ix (List.set (List.set v8 v7 (ix v8 v7)) v7 (ix (List.set v8 v7 (ix v8 v7)) v7)) v7).Hours) ((ix (List.set (List.set v8 v7 (ix v8 v7)) v7 (ix (List.set v8 v7 (ix v8 v7)) v7)) v7).Needs) v14 ((ix (List.set (List.set v8 v7 (ix v8 v7)) v7 (ix (List.set v8 v7 (ix v8 v7)) v7)) v7).Parts))))), none]) (.cons (objCo_set (fun _ => rfl) (.cons .same (.cons .same (.cons .same (.cons .same (.cons .same (.cons .same .nil))))))) (.cons .same .nil))) (Sees.cov (Cov.mk2 (rs := [0]) (by decide) rfl rfl (.cons (.inl (by simp only [List.length_set]; rfl)) (.cons (.inl rfl) .nil)) (obRen_row eTask_frz rfl .nil))))) ⟨(v7 + 1, (List.set (List.set (List.set v8 v7 (ix v8 v7)) v7 (ix (List.set v8 v7 (ix v8 v7)) v7)) v7 (Task.mk ((ix (List.set (List.set v8 v7 (ix v8 v7)) v7 (ix (List.set v8 v7 (ix v8 v7)) v7)) v7).Name) ((ix (List.set (List.set v8 v7 (ix v8 v7)) v7 (ix (List.set v8 v7 (ix v8 v7)) v7)) v7).Cents) ((ix (List.set (List.set v8 v7 (ix v8 v7)) v7 (ix (List.set v8 v7 (ix v8 v7)) v7)) v7).Hours) ((ix (List.set (List.set v8 v7 (ix v8 v7)) v7 (ix (List.set v8 v7 (ix v8 v7)) v7)) v7).Needs) v14 ((ix (List.set (List.set v8 v7 (ix v8 v7)) v7 (ix (List.set v8 v7 (ix v8 v7)) v7)) v7).Parts)))), rfl, h⟩
    intro k1 h
    refine TriE.block ?_
    refine sj ?_
    refine rn 4 [(3, .own 0 0 v8.length), (4, vi v7), (16, .own 0 0 v8.length), (17, vi v7), (18, .own 0 0 v8.length), (19, vi v7)] [some (.row 6 (List.map eTask v8))] ?_
    refine jv (.ptr 0 v7 0) (cy (I0 20 (.iaddr 6 (.t 18) (.t 19)))) (ok_iaddr_o0 (j := v7) rfl rfl rfl rfl c2) rfl ?_
    refine rn 1 [(3, .own 0 0 v8.length), (4, vi v7), (16, .own 0 0 v8.length), (17, vi v7), (21, .ptr 0 v7 3)] [some (.row 6 (List.map eTask v8))] ?_
    refine jv (eS 1 vt ((ix v8 v7).Needs)) (cy (I0 22 (.load false 1 (.t 21)))) (ok_load_pm (l := v8) (e := eTask) (v := eS 1 vt ((ix v8 v7).Needs)) rfl rfl c2 rfl) rfl ?_
    obtain ⟨y9, hy9, h⟩ := bind_some h
    refine RegJ.op (Op1.call (y' := .own 1 0 (((ix v8 v7).Needs).length)) (obx := []) (oby := [some (.row 1 (List.map vt ((ix v8 v7).Needs)))]) (ob2 := [some (.row 6 (List.map eTask v8)), some (.row 1 (List.map vt ((ix v8 v7).Needs)))]) _ _ (cy (I0 23 (.call 18 [(.t 22)]))) rfl (agraffebase_CopyTexts_2_ok n ((ix v8 v7).Needs) y9 hy9) [] (by kernel_rfl) (.cons rfl (.cons rfl .nil)) (by kernel_rfl) (by kernel_rfl) ObsRen.nil (by kernel_rfl) (.same (row_ren vt_frz _ _ _) .nil) (by kernel_rfl)) ?_
    refine jv (.ptr 0 v7 0) (cy (I0 24 (.iaddr 6 (.t 16) (.t 17)))) (ok_iaddr_o0 (j := v7) rfl rfl rfl rfl c2) rfl ?_
    refine rn 1 [(3, .own 0 0 v8.length), (4, vi v7), (23, .own 1 0 (((ix v8 v7).Needs).length)), (25, .ptr 0 v7 3)] [some (.row 6 (List.map eTask v8)), some (.row 1 (List.map vt ((ix v8 v7).Needs)))] ?_
    refine RegJ.sees (Sees.freeze 1 (fr' := [(3, .own 0 0 v8.length), (4, vi v7), (23, eS 1 vt ((ix v8 v7).Needs)), (25, .ptr 0 v7 3)]) (ob' := [some (.row 6 (List.map eTask v8)), none]) rfl (frz_row vt_frzE _) (.cons (.refl _) (.cons (.refl _) (.cons (frz_full rfl) (.cons (.refl _) .nil)))) rfl) ?_
    refine je (.undef) [some (.row 6 (List.map eTask (List.set v8 v7 (ix v8 v7)))), none] (cy (IN (.store 1 (.t 25) (.t 23)))) (ok_store_m (l := v8) (e := eTask) (x' := (ix v8 v7)) (u := eS 1 vt ((ix v8 v7).Needs)) rfl rfl rfl c2 rfl rfl) rfl rfl rfl ?_
    refine jp [(3, .own 0 0 v8.length), (4, vi v7)] ?_
    refine sj ?_
    refine rn 5 [(3, .own 0 0 v8.length), (4, vi v7), (26, .own 0 0 v8.length), (27, vi v7), (28, .emp), (29, .own 0 0 v8.length), (30, vi v7)] [some (.row 6 (List.map eTask (List.set v8 v7 (ix v8 v7)))), none] ?_
    refine jv (.ptr 0 v7 0) (cy (I0 31 (.iaddr 6 (.t 29) (.t 30)))) (ok_iaddr_o0 (j := v7) rfl rfl rfl rfl c2) rfl ?_
    refine rn 1 [(3, .own 0 0 v8.length), (4, vi v7), (26, .own 0 0 v8.length), (27, vi v7), (28, .emp), (32, .ptr 0 v7 5)] [some (.row 6 (List.map eTask (List.set v8 v7 (ix v8 v7)))), none] ?_
    obtain ⟨c3, h⟩ := chk_some h
    refine jv (eS 2 ePartCount ((ix (List.set v8 v7 (ix v8 v7)) v7).Parts)) (cy (I0 33 (.load false 1 (.t 32)))) (ok_load_pm (l := (List.set v8 v7 (ix v8 v7))) (e := eTask) (v := eS 2 ePartCount ((ix (List.set v8 v7 (ix v8 v7)) v7).Parts)) rfl rfl c3 rfl) rfl ?_
    obtain ⟨c4, h⟩ := chk_some h
    refine je (.own 2 0 (((ix (List.set v8 v7 (ix v8 v7)) v7).Parts).length)) [some (.row 6 (List.map eTask (List.set v8 v7 (ix v8 v7)))), none, some (.row 2 (List.map ePartCount ((ix (List.set v8 v7 (ix v8 v7)) v7).Parts)))] (cy (I0 34 (.app 2 24 (.t 28) (.t 33)))) (ok_app_emp (e := ePartCount) (l := (ix (List.set v8 v7 (ix v8 v7)) v7).Parts) (u := eS 2 ePartCount ((ix (List.set v8 v7 (ix v8 v7)) v7).Parts)) rfl rfl els_sl c4) rfl rfl rfl ?_
    refine jv (.ptr 0 v7 0) (cy (I0 35 (.iaddr 6 (.t 26) (.t 27)))) (ok_iaddr_o0 (j := v7) rfl rfl rfl rfl c2) rfl ?_
    refine rn 1 [(3, .own 0 0 v8.length), (4, vi v7), (34, .own 2 0 (((ix (List.set v8 v7 (ix v8 v7)) v7).Parts).length)), (36, .ptr 0 v7 5)] [some (.row 6 (List.map eTask (List.set v8 v7 (ix v8 v7)))), none, some (.row 2 (List.map ePartCount ((ix (List.set v8 v7 (ix v8 v7)) v7).Parts)))] ?_
    refine RegJ.sees (Sees.freeze 2 (fr' := [(3, .own 0 0 v8.length), (4, vi v7), (34, eS 2 ePartCount ((ix (List.set v8 v7 (ix v8 v7)) v7).Parts)), (36, .ptr 0 v7 5)]) (ob' := [some (.row 6 (List.map eTask (List.set v8 v7 (ix v8 v7)))), none, none]) rfl (frz_row ePartCount_frzE _) (.cons (.refl _) (.cons (.refl _) (.cons (frz_full (by simp)) (.cons (.refl _) .nil)))) rfl) ?_
    refine je (.undef) [some (.row 6 (List.map eTask (List.set (List.set v8 v7 (ix v8 v7)) v7 (ix (List.set v8 v7 (ix v8 v7)) v7)))), none, none] (cy (IN (.store 1 (.t 36) (.t 34)))) (ok_store_m (l := (List.set v8 v7 (ix v8 v7))) (e := eTask) (x' := (ix (List.set v8 v7 (ix v8 v7)) v7)) (u := eS 2 ePartCount ((ix (List.set v8 v7 (ix v8 v7)) v7).Parts)) rfl rfl rfl c3 rfl rfl) rfl rfl rfl ?_
    refine jp [(3, .own 0 0 v8.length), (4, vi v7)] ?_
    refine sj ?_
    refine rn 2 [(3, .own 0 0 v8.length), (4, vi v7), (37, .own 0 0 v8.length), (38, vi v7)] [some (.row 6 (List.map eTask (List.set (List.set v8 v7 (ix v8 v7)) v7 (ix (List.set v8 v7 (ix v8 v7)) v7)))), none, none] ?_
    refine jv (.ptr 0 v7 0) (cy (I0 39 (.iaddr 6 (.t 37) (.t 38)))) (ok_iaddr_o0 (j := v7) rfl rfl rfl rfl c2) rfl ?_
    refine rn 1 [(3, .own 0 0 v8.length), (4, vi v7), (40, .ptr 0 v7 4)] [some (.row 6 (List.map eTask (List.set (List.set v8 v7 (ix v8 v7)) v7 (ix (List.set v8 v7 (ix v8 v7)) v7)))), none, none] ?_
    obtain ⟨c5, h⟩ := chk_some h
    refine jv (eS 1 (eS 1 vt) ((ix (List.set (List.set v8 v7 (ix v8 v7)) v7 (ix (List.set v8 v7 (ix v8 v7)) v7)) v7).OneOf)) (cy (I0 41 (.load false 1 (.t 40)))) (ok_load_pm (l := (List.set (List.set v8 v7 (ix v8 v7)) v7 (ix (List.set v8 v7 (ix v8 v7)) v7))) (e := eTask) (v := eS 1 (eS 1 vt) ((ix (List.set (List.set v8 v7 (ix v8 v7)) v7 (ix (List.set v8 v7 (ix v8 v7)) v7)) v7).OneOf)) rfl rfl c5 rfl) rfl ?_
    refine jq 1 [(3, .own 0 0 v8.length), (4, vi v7), (5, eS 1 (eS 1 vt) ((ix (List.set (List.set v8 v7 (ix v8 v7)) v7 (ix (List.set v8 v7 (ix v8 v7)) v7)) v7).OneOf))] [some (.row 6 (List.map eTask (List.set (List.set v8 v7 (ix v8 v7)) v7 (ix (List.set v8 v7 (ix v8 v7)) v7)))), none, none] ?_
    refine sj ?_
    refine rn 2 [(3, .own 0 0 v8.length), (4, vi v7), (5, eS 1 (eS 1 vt) ((ix (List.set (List.set v8 v7 (ix v8 v7)) v7 (ix (List.set v8 v7 (ix v8 v7)) v7)) v7).OneOf)), (42, .own 0 0 v8.length), (43, vi v7)] [some (.row 6 (List.map eTask (List.set (List.set v8 v7 (ix v8 v7)) v7 (ix (List.set v8 v7 (ix v8 v7)) v7)))), none, none] ?_
    refine jv (.ptr 0 v7 0) (cy (I0 44 (.iaddr 6 (.t 42) (.t 43)))) (ok_iaddr_o0 (j := v7) rfl rfl rfl rfl c2) rfl ?_
    refine rn 1 [(3, .own 0 0 v8.length), (4, vi v7), (5, eS 1 (eS 1 vt) ((ix (List.set (List.set v8 v7 (ix v8 v7)) v7 (ix (List.set v8 v7 (ix v8 v7)) v7)) v7).OneOf)), (45, .ptr 0 v7 4)] [some (.row 6 (List.map eTask (List.set (List.set v8 v7 (ix v8 v7)) v7 (ix (List.set v8 v7 (ix v8 v7)) v7)))), none, none] ?_
    refine je (.undef) [some (.row 6 (List.set (List.map eTask (List.set (List.set v8 v7 (ix v8 v7)) v7 (ix (List.set v8 v7 (ix v8 v7)) v7))) v7 (.agg [vt ((ix (List.set (List.set v8 v7 (ix v8 v7)) v7 (ix (List.set v8 v7 (ix v8 v7)) v7)) v7).Name), vi ((ix (List.set (List.set v8 v7 (ix v8 v7)) v7 (ix (List.set v8 v7 (ix v8 v7)) v7)) v7).Cents), vi ((ix (List.set (List.set v8 v7 (ix v8 v7)) v7 (ix (List.set v8 v7 (ix v8 v7)) v7)) v7).Hours), eS 1 vt ((ix (List.set (List.set v8 v7 (ix v8 v7)) v7 (ix (List.set v8 v7 (ix v8 v7)) v7)) v7).Needs), .emp, eS 2 ePartCount ((ix (List.set (List.set v8 v7 (ix v8 v7)) v7 (ix (List.set v8 v7 (ix v8 v7)) v7)) v7).Parts)]))), none, none] (cy (IN (.store 1 (.t 45) (.c .emp)))) (ok_store_r (l := (List.set (List.set v8 v7 (ix v8 v7)) v7 (ix (List.set v8 v7 (ix v8 v7)) v7))) (e := eTask) (X' := .agg [vt ((ix (List.set (List.set v8 v7 (ix v8 v7)) v7 (ix (List.set v8 v7 (ix v8 v7)) v7)) v7).Name), vi ((ix (List.set (List.set v8 v7 (ix v8 v7)) v7 (ix (List.set v8 v7 (ix v8 v7)) v7)) v7).Cents), vi ((ix (List.set (List.set v8 v7 (ix v8 v7)) v7 (ix (List.set v8 v7 (ix v8 v7)) v7)) v7).Hours), eS 1 vt ((ix (List.set (List.set v8 v7 (ix v8 v7)) v7 (ix (List.set v8 v7 (ix v8 v7)) v7)) v7).Needs), .emp, eS 2 ePartCount ((ix (List.set (List.set v8 v7 (ix v8 v7)) v7 (ix (List.set v8 v7 (ix v8 v7)) v7)) v7).Parts)]) (u := .emp) rfl rfl rfl c5 rfl rfl) rfl rfl rfl ?_
    refine jp [(3, .own 0 0 v8.length), (4, vi v7), (5, eS 1 (eS 1 vt) ((ix (List.set (List.set v8 v7 (ix v8 v7)) v7 (ix (List.set v8 v7 (ix v8 v7)) v7)) v7).OneOf))] ?_
    refine sr [(3, .own 0 0 v8.length), (4, vi v7), (5, eS 1 (eS 1 vt) ((ix (List.set (List.set v8 v7 (ix v8 v7)) v7 (ix (List.set v8 v7 (ix v8 v7)) v7)) v7).OneOf)), (6, vi 0)] [some (.row 6 (List.set (List.map eTask (List.set (List.set v8 v7 (ix v8 v7)) v7 (ix (List.set v8 v7 (ix v8 v7)) v7))) v7 (.agg [vt ((ix (List.set (List.set v8 v7 (ix v8 v7)) v7 (ix (List.set v8 v7 (ix v8 v7)) v7)) v7).Name), vi ((ix (List.set (List.set v8 v7 (ix v8 v7)) v7 (ix (List.set v8 v7 (ix v8 v7)) v7)) v7).Cents), vi ((ix (List.set (List.set v8 v7 (ix v8 v7)) v7 (ix (List.set v8 v7 (ix v8 v7)) v7)) v7).Hours), eS 1 vt ((ix (List.set (List.set v8 v7 (ix v8 v7)) v7 (ix (List.set v8 v7 (ix v8 v7)) v7)) v7).Needs), .emp, eS 2 ePartCount ((ix (List.set (List.set v8 v7 (ix v8 v7)) v7 (ix (List.set v8 v7 (ix v8 v7)) v7)) v7).Parts)]))), none, none] ?_
    refine TriE.block ?_
    refine TriE.sees (S' := ⟨[(3, .own 0 0 v8.length), (4, vi v7), (5, eS 1 (eS 1 vt) ((ix (List.set (List.set v8 v7 (ix v8 v7)) v7 (ix (List.set v8 v7 (ix v8 v7)) v7)) v7).OneOf)), (6, vi 0)], [some (.row 6 (List.set (List.map eTask (List.set (List.set v8 v7 (ix v8 v7)) v7 (ix (List.set v8 v7 (ix v8 v7)) v7))) v7 (.agg [vt ((ix (List.set (List.set v8 v7 (ix v8 v7)) v7 (ix (List.set v8 v7 (ix v8 v7)) v7)) v7).Name), vi ((ix (List.set (List.set v8 v7 (ix v8 v7)) v7 (ix (List.set v8 v7 (ix v8 v7)) v7)) v7).Cents), vi ((ix (List.set (List.set v8 v7 (ix v8 v7)) v7 (ix (List.set v8 v7 (ix v8 v7)) v7)) v7).Hours), eS 1 vt ((ix (List.set (List.set v8 v7 (ix v8 v7)) v7 (ix (List.set v8 v7 (ix v8 v7)) v7)) v7).Needs), .own 1 0 ([] : List (List Str)).length, eS 2 ePartCount ((ix (List.set (List.set v8 v7 (ix v8 v7)) v7 (ix (List.set v8 v7 (ix v8 v7)) v7)) v7).Parts)]))), some (.row 1 (List.map (eS 1 vt) ([] : List (List Str))))]⟩) (Sees.trans (Sees.co2 (fr' := [(3, .own 0 0 v8.length), (4, vi v7), (5, eS 1 (eS 1 vt) ((ix (List.set (List.set v8 v7 (ix v8 v7)) v7 (ix (List.set v8 v7 (ix v8 v7)) v7)) v7).OneOf)), (6, vi 0)]) (ob' := [some (.row 6 (List.set (List.map eTask (List.set (List.set v8 v7 (ix v8 v7)) v7 (ix (List.set v8 v7 (ix v8 v7)) v7))) v7 (.agg [vt ((ix (List.set (List.set v8 v7 (ix v8 v7)) v7 (ix (List.set v8 v7 (ix v8 v7)) v7)) v7).Name), vi ((ix (List.set (List.set v8 v7 (ix v8 v7)) v7 (ix (List.set v8 v7 (ix v8 v7)) v7)) v7).Cents), vi ((ix (List.set (List.set v8 v7 (ix v8 v7)) v7 (ix (List.set v8 v7 (ix v8 v7)) v7)) v7).Hours), eS 1 vt ((ix (List.set (List.set v8 v7 (ix v8 v7)) v7 (ix (List.set v8 v7 (ix v8 v7)) v7)) v7).Needs), .own 3 0 0, eS 2 ePartCount ((ix (List.set (List.set v8 v7 (ix v8 v7)) v7 (ix (List.set v8 v7 (ix v8 v7)) v7)) v7).Parts)]))), none, none]) (.cons .same (.cons .same (.cons .same (.cons .same .nil)))) (.cons (objLe_set (fun _ => rfl) (.cons .same (.cons .same (.cons .same (.cons .same (.cons .own (.cons .same .nil)))))) rfl) (.cons .same (.cons .same .nil))) 1) (sc [0, 3] (by decide) (by kernel_rfl) (obRen_set eTask_frz rfl rfl (obRen_row (eS_frz 1 vt) rfl .nil)) rfl rfl)) ?_
    refine TriE.loopN h (fun (t : Nat × (List (List Str))) => match t with | (v11, v12) => St.mk [(3, .own 0 0 v8.length), (4, vi v7), (5, eS 1 (eS 1 vt) ((ix (List.set (List.set v8 v7 (ix v8 v7)) v7 (ix (List.set v8 v7 (ix v8 v7)) v7)) v7).OneOf)), (6, vi v11)] [some (.row 6 (List.set (List.map eTask (List.set (List.set v8 v7 (ix v8 v7)) v7 (ix (List.set v8 v7 (ix v8 v7)) v7))) v7 (.agg [vt ((ix (List.set (List.set v8 v7 (ix v8 v7)) v7 (ix (List.set v8 v7 (ix v8 v7)) v7)) v7).Name), vi ((ix (List.set (List.set v8 v7 (ix v8 v7)) v7 (ix (List.set v8 v7 (ix v8 v7)) v7)) v7).Cents), vi ((ix (List.set (List.set v8 v7 (ix v8 v7)) v7 (ix (List.set v8 v7 (ix v8 v7)) v7)) v7).Hours), eS 1 vt ((ix (List.set (List.set v8 v7 (ix v8 v7)) v7 (ix (List.set v8 v7 (ix v8 v7)) v7)) v7).Needs), .own 1 0 v12.length, eS 2 ePartCount ((ix (List.set (List.set v8 v7 (ix v8 v7)) v7 (ix (List.set v8 v7 (ix v8 v7)) v7)) v7).Parts)]))), some (.row 1 (List.map (eS 1 vt) v12))]) rfl ?_
    clear h
    rintro back ⟨v11, v12⟩ h
    dsimp only [agraffelaw08_Copied_L1] at h
    refine TriE.seq ?_
    refine sj ?_
    refine rn 2 [(3, .own 0 0 v8.length), (4, vi v7), (5, eS 1 (eS 1 vt) ((ix (List.set (List.set v8 v7 (ix v8 v7)) v7 (ix (List.set v8 v7 (ix v8 v7)) v7)) v7).OneOf)), (6, vi v11), (46, vi v11), (47, eS 1 (eS 1 vt) ((ix (List.set (List.set v8 v7 (ix v8 v7)) v7 (ix (List.set v8 v7 (ix v8 v7)) v7)) v7).OneOf))] [some (.row 6 (List.set (List.map eTask (List.set (List.set v8 v7 (ix v8 v7)) v7 (ix (List.set v8 v7 (ix v8 v7)) v7))) v7 (.agg [vt ((ix (List.set (List.set v8 v7 (ix v8 v7)) v7 (ix (List.set v8 v7 (ix v8 v7)) v7)) v7).Name), vi ((ix (List.set (List.set v8 v7 (ix v8 v7)) v7 (ix (List.set v8 v7 (ix v8 v7)) v7)) v7).Cents), vi ((ix (List.set (List.set v8 v7 (ix v8 v7)) v7 (ix (List.set v8 v7 (ix v8 v7)) v7)) v7).Hours), eS 1 vt ((ix (List.set (List.set v8 v7 (ix v8 v7)) v7 (ix (List.set v8 v7 (ix v8 v7)) v7)) v7).Needs), .own 1 0 v12.length, eS 2 ePartCount ((ix (List.set (List.set v8 v7 (ix v8 v7)) v7 (ix (List.set v8 v7 (ix v8 v7)) v7)) v7).Parts)]))), some (.row 1 (List.map (eS 1 vt) v12))] ?_
    refine jv (vi ((((ix (List.set (List.set v8 v7 (ix v8 v7)) v7 (ix (List.set v8 v7 (ix v8 v7)) v7)) v7).OneOf).length : Nat) : Int)) (cy (I0 48 (.len 0 (.t 47)))) (ok_len_m rfl) rfl ?_
    refine jv (vb (decide (v11 < (((ix (List.set (List.set v8 v7 (ix v8 v7)) v7 (ix (List.set v8 v7 (ix v8 v7)) v7)) v7).OneOf).length)))) (cy (I0 49 (.bin .lss false (.t 46) (.t 48)))) (n_lss (i := v11) (j := ((ix (List.set (List.set v8 v7 (ix v8 v7)) v7 (ix (List.set v8 v7 (ix v8 v7)) v7)) v7).OneOf).length) rfl rfl) rfl ?_
    refine jp [(3, .own 0 0 v8.length), (4, vi v7), (5, eS 1 (eS 1 vt) ((ix (List.set (List.set v8 v7 (ix v8 v7)) v7 (ix (List.set v8 v7 (ix v8 v7)) v7)) v7).OneOf)), (6, vi v11), (49, vb (decide (v11 < (((ix (List.set (List.set v8 v7 (ix v8 v7)) v7 (ix (List.set v8 v7 (ix v8 v7)) v7)) v7).OneOf).length))))] ?_
    refine TriE.cond (b := decide (v11 < (((ix (List.set (List.set v8 v7 (ix v8 v7)) v7 (ix (List.set v8 v7 (ix v8 v7)) v7)) v7).OneOf).length))) rfl (fun c6 => ?_) (fun c6 => ?_)
    · have h := cond_t h c6
      refine TriE.skip ?_
      refine TriE.seq ?_
      refine TriE.block ?_
      refine TriE.sees (Sees.less (fr' := [(3, .own 0 0 v8.length), (4, vi v7), (5, eS 1 (eS 1 vt) ((ix (List.set (List.set v8 v7 (ix v8 v7)) v7 (ix (List.set v8 v7 (ix v8 v7)) v7)) v7).OneOf)), (6, vi v11)]) (.cons rfl (.cons rfl (.cons rfl (.cons rfl .nil))))) ?_
      refine TriE.draw (by kernel_rfl) ?_
      refine RegD.run 4 [(55, vi v7), (54, .own 0 0 v8.length), (53, vi v7), (52, .own 0 0 v8.length), (3, .own 0 0 v8.length), (4, vi v7), (5, eS 1 (eS 1 vt) ((ix (List.set (List.set v8 v7 (ix v8 v7)) v7 (ix (List.set v8 v7 (ix v8 v7)) v7)) v7).OneOf)), (6, vi v11)] [some (.row 6 (List.set (List.map eTask (List.set (List.set v8 v7 (ix v8 v7)) v7 (ix (List.set v8 v7 (ix v8 v7)) v7))) v7 (.agg [vt ((ix (List.set (List.set v8 v7 (ix v8 v7)) v7 (ix (List.set v8 v7 (ix v8 v7)) v7)) v7).Name), vi ((ix (List.set (List.set v8 v7 (ix v8 v7)) v7 (ix (List.set v8 v7 (ix v8 v7)) v7)) v7).Cents), vi ((ix (List.set (List.set v8 v7 (ix v8 v7)) v7 (ix (List.set v8 v7 (ix v8 v7)) v7)) v7).Hours), eS 1 vt ((ix (List.set (List.set v8 v7 (ix v8 v7)) v7 (ix (List.set v8 v7 (ix v8 v7)) v7)) v7).Needs), .own 1 0 v12.length, eS 2 ePartCount ((ix (List.set (List.set v8 v7 (ix v8 v7)) v7 (ix (List.set v8 v7 (ix v8 v7)) v7)) v7).Parts)]))), some (.row 1 (List.map (eS 1 vt) v12)), none, none, none, none] (by kernel_rfl) ?_
      refine dv (.ptr 0 v7 0) (cy (I0 56 (.iaddr 6 (.t 54) (.t 55)))) (ok_iaddr_o0 (j := v7) rfl rfl rfl rfl c2) rfl ?_
      refine RegD.run 1 [(57, .ptr 0 v7 4), (56, .ptr 0 v7 0), (55, vi v7), (54, .own 0 0 v8.length), (53, vi v7), (52, .own 0 0 v8.length), (3, .own 0 0 v8.length), (4, vi v7), (5, eS 1 (eS 1 vt) ((ix (List.set (List.set v8 v7 (ix v8 v7)) v7 (ix (List.set v8 v7 (ix v8 v7)) v7)) v7).OneOf)), (6, vi v11)] [some (.row 6 (List.set (List.map eTask (List.set (List.set v8 v7 (ix v8 v7)) v7 (ix (List.set v8 v7 (ix v8 v7)) v7))) v7 (.agg [vt ((ix (List.set (List.set v8 v7 (ix v8 v7)) v7 (ix (List.set v8 v7 (ix v8 v7)) v7)) v7).Name), vi ((ix (List.set (List.set v8 v7 (ix v8 v7)) v7 (ix (List.set v8 v7 (ix v8 v7)) v7)) v7).Cents), vi ((ix (List.set (List.set v8 v7 (ix v8 v7)) v7 (ix (List.set v8 v7 (ix v8 v7)) v7)) v7).Hours), eS 1 vt ((ix (List.set (List.set v8 v7 (ix v8 v7)) v7 (ix (List.set v8 v7 (ix v8 v7)) v7)) v7).Needs), .own 1 0 v12.length, eS 2 ePartCount ((ix (List.set (List.set v8 v7 (ix v8 v7)) v7 (ix (List.set v8 v7 (ix v8 v7)) v7)) v7).Parts)]))), some (.row 1 (List.map (eS 1 vt) v12)), none, none, none, none, none, none] (by kernel_rfl) ?_
      refine dv (.own 1 0 v12.length) (cy (I0 58 (.load false 1 (.t 57)))) (ok_load_set (l := (List.set (List.set v8 v7 (ix v8 v7)) v7 (ix (List.set v8 v7 (ix v8 v7)) v7))) (e := eTask) (v := .own 1 0 v12.length) rfl rfl c5 rfl) rfl ?_
      refine RegD.run 2 [(60, vi v11), (59, eS 1 (eS 1 vt) ((ix (List.set (List.set v8 v7 (ix v8 v7)) v7 (ix (List.set v8 v7 (ix v8 v7)) v7)) v7).OneOf)), (58, .own 1 0 v12.length), (57, .ptr 0 v7 4), (56, .ptr 0 v7 0), (55, vi v7), (54, .own 0 0 v8.length), (53, vi v7), (52, .own 0 0 v8.length), (3, .own 0 0 v8.length), (4, vi v7), (5, eS 1 (eS 1 vt) ((ix (List.set (List.set v8 v7 (ix v8 v7)) v7 (ix (List.set v8 v7 (ix v8 v7)) v7)) v7).OneOf)), (6, vi v11)] [some (.row 6 (List.set (List.map eTask (List.set (List.set v8 v7 (ix v8 v7)) v7 (ix (List.set v8 v7 (ix v8 v7)) v7))) v7 (.agg [vt ((ix (List.set (List.set v8 v7 (ix v8 v7)) v7 (ix (List.set v8 v7 (ix v8 v7)) v7)) v7).Name), vi ((ix (List.set (List.set v8 v7 (ix v8 v7)) v7 (ix (List.set v8 v7 (ix v8 v7)) v7)) v7).Cents), vi ((ix (List.set (List.set v8 v7 (ix v8 v7)) v7 (ix (List.set v8 v7 (ix v8 v7)) v7)) v7).Hours), eS 1 vt ((ix (List.set (List.set v8 v7 (ix v8 v7)) v7 (ix (List.set v8 v7 (ix v8 v7)) v7)) v7).Needs), .own 1 0 v12.length, eS 2 ePartCount ((ix (List.set (List.set v8 v7 (ix v8 v7)) v7 (ix (List.set v8 v7 (ix v8 v7)) v7)) v7).Parts)]))), some (.row 1 (List.map (eS 1 vt) v12)), none, none, none, none, none, none, none, none, none] (by kernel_rfl) ?_
      obtain ⟨c7, h⟩ := chk_some h
      refine dv (.fptr 1 (List.map (eS 1 vt) ((ix (List.set (List.set v8 v7 (ix v8 v7)) v7 (ix (List.set v8 v7 (ix v8 v7)) v7)) v7).OneOf)) v11 0) (cy (I0 61 (.iaddr 1 (.t 59) (.t 60)))) (ok_iaddr_m (j := v11) rfl rfl rfl c7) rfl ?_
      refine dv (eS 1 vt (ix ((ix (List.set (List.set v8 v7 (ix v8 v7)) v7 (ix (List.set v8 v7 (ix v8 v7)) v7)) v7).OneOf) v11)) (cy (I0 62 (.load false 1 (.t 61)))) (ok_load_fm (v := eS 1 vt (ix ((ix (List.set (List.set v8 v7 (ix v8 v7)) v7 (ix (List.set v8 v7 (ix v8 v7)) v7)) v7).OneOf) v11)) rfl c7 rfl) rfl ?_
      obtain ⟨y13, hy13, h⟩ := bind_some h
      refine RegD.op (OpD.call (y' := eS 1 vt (ix ((ix (List.set (List.set v8 v7 (ix v8 v7)) v7 (ix (List.set v8 v7 (ix v8 v7)) v7)) v7).OneOf) v11)) (obx := []) (oby := []) (ob2 := [some (.row 6 (List.set (List.map eTask (List.set (List.set v8 v7 (ix v8 v7)) v7 (ix (List.set v8 v7 (ix v8 v7)) v7))) v7 (.agg [vt ((ix (List.set (List.set v8 v7 (ix v8 v7)) v7 (ix (List.set v8 v7 (ix v8 v7)) v7)) v7).Name), vi ((ix (List.set (List.set v8 v7 (ix v8 v7)) v7 (ix (List.set v8 v7 (ix v8 v7)) v7)) v7).Cents), vi ((ix (List.set (List.set v8 v7 (ix v8 v7)) v7 (ix (List.set v8 v7 (ix v8 v7)) v7)) v7).Hours), eS 1 vt ((ix (List.set (List.set v8 v7 (ix v8 v7)) v7 (ix (List.set v8 v7 (ix v8 v7)) v7)) v7).Needs), .own 1 0 v12.length, eS 2 ePartCount ((ix (List.set (List.set v8 v7 (ix v8 v7)) v7 (ix (List.set v8 v7 (ix v8 v7)) v7)) v7).Parts)]))), some (.row 1 (List.map (eS 1 vt) v12)), none, none, none, none, none, none, none, none, none, none, none, none]) (tch := []) 0 _ _ (cy (I0 63 (.call 18 [(.t 62)]))) (agraffebase_CopyTexts_ok n (ix ((ix (List.set (List.set v8 v7 (ix v8 v7)) v7 (ix (List.set v8 v7 (ix v8 v7)) v7)) v7).OneOf) v11) y13 hy13) [] (by kernel_rfl) (.cons rfl (.cons rfl .nil)) (by kernel_rfl) (by kernel_rfl) ObsRen.nil (by kernel_rfl) ObsRen.nil (by kernel_rfl) rfl (.inr ⟨rfl, rfl⟩)) ?_
      refine RegD.run 1 [(64, .own 14 0 1), (63, eS 1 vt (ix ((ix (List.set (List.set v8 v7 (ix v8 v7)) v7 (ix (List.set v8 v7 (ix v8 v7)) v7)) v7).OneOf) v11)), (62, eS 1 vt (ix ((ix (List.set (List.set v8 v7 (ix v8 v7)) v7 (ix (List.set v8 v7 (ix v8 v7)) v7)) v7).OneOf) v11)), (61, .fptr 1 (List.map (eS 1 vt) ((ix (List.set (List.set v8 v7 (ix v8 v7)) v7 (ix (List.set v8 v7 (ix v8 v7)) v7)) v7).OneOf)) v11 0), (60, vi v11), (59, eS 1 (eS 1 vt) ((ix (List.set (List.set v8 v7 (ix v8 v7)) v7 (ix (List.set v8 v7 (ix v8 v7)) v7)) v7).OneOf)), (58, .own 1 0 v12.length), (57, .ptr 0 v7 4), (56, .ptr 0 v7 0), (55, vi v7), (54, .own 0 0 v8.length), (53, vi v7), (52, .own 0 0 v8.length), (3, .own 0 0 v8.length), (4, vi v7), (5, eS 1 (eS 1 vt) ((ix (List.set (List.set v8 v7 (ix v8 v7)) v7 (ix (List.set v8 v7 (ix v8 v7)) v7)) v7).OneOf)), (6, vi v11)] [some (.row 6 (List.set (List.map eTask (List.set (List.set v8 v7 (ix v8 v7)) v7 (ix (List.set v8 v7 (ix v8 v7)) v7))) v7 (.agg [vt ((ix (List.set (List.set v8 v7 (ix v8 v7)) v7 (ix (List.set v8 v7 (ix v8 v7)) v7)) v7).Name), vi ((ix (List.set (List.set v8 v7 (ix v8 v7)) v7 (ix (List.set v8 v7 (ix v8 v7)) v7)) v7).Cents), vi ((ix (List.set (List.set v8 v7 (ix v8 v7)) v7 (ix (List.set v8 v7 (ix v8 v7)) v7)) v7).Hours), eS 1 vt ((ix (List.set (List.set v8 v7 (ix v8 v7)) v7 (ix (List.set v8 v7 (ix v8 v7)) v7)) v7).Needs), .own 1 0 v12.length, eS 2 ePartCount ((ix (List.set (List.set v8 v7 (ix v8 v7)) v7 (ix (List.set v8 v7 (ix v8 v7)) v7)) v7).Parts)]))), some (.row 1 (List.map (eS 1 vt) v12)), none, none, none, none, none, none, none, none, none, none, none, none, some (.row 1 [eS 1 vt (ix ((ix (List.set (List.set v8 v7 (ix v8 v7)) v7 (ix (List.set v8 v7 (ix v8 v7)) v7)) v7).OneOf) v11)])] (by kernel_rfl) ?_
      obtain ⟨c8, h⟩ := chk_some h
      refine de (.own 15 0 ((v12 ++ ([(ix ((ix (List.set (List.set v8 v7 (ix v8 v7)) v7 (ix (List.set v8 v7 (ix v8 v7)) v7)) v7).OneOf) v11)] : List (List Str))).length)) [some (.row 6 (List.set (List.map eTask (List.set (List.set v8 v7 (ix v8 v7)) v7 (ix (List.set v8 v7 (ix v8 v7)) v7))) v7 (.agg [vt ((ix (List.set (List.set v8 v7 (ix v8 v7)) v7 (ix (List.set v8 v7 (ix v8 v7)) v7)) v7).Name), vi ((ix (List.set (List.set v8 v7 (ix v8 v7)) v7 (ix (List.set v8 v7 (ix v8 v7)) v7)) v7).Cents), vi ((ix (List.set (List.set v8 v7 (ix v8 v7)) v7 (ix (List.set v8 v7 (ix v8 v7)) v7)) v7).Hours), eS 1 vt ((ix (List.set (List.set v8 v7 (ix v8 v7)) v7 (ix (List.set v8 v7 (ix v8 v7)) v7)) v7).Needs), .own 1 0 v12.length, eS 2 ePartCount ((ix (List.set (List.set v8 v7 (ix v8 v7)) v7 (ix (List.set v8 v7 (ix v8 v7)) v7)) v7).Parts)]))), none, none, none, none, none, none, none, none, none, none, none, none, none, some (.row 1 [eS 1 vt (ix ((ix (List.set (List.set v8 v7 (ix v8 v7)) v7 (ix (List.set v8 v7 (ix v8 v7)) v7)) v7).OneOf) v11)]), some (.row 1 (List.map (eS 1 vt) (v12 ++ ([(ix ((ix (List.set (List.set v8 v7 (ix v8 v7)) v7 (ix (List.set v8 v7 (ix v8 v7)) v7)) v7).OneOf) v11)] : List (List Str)))))] (cy (I0 65 (.app 1 24 (.t 58) (.t 64)))) (ok_app_own (l := v12) (l2 := ([(ix ((ix (List.set (List.set v8 v7 (ix v8 v7)) v7 (ix (List.set v8 v7 (ix v8 v7)) v7)) v7).OneOf) v11)] : List (List Str))) (e := (eS 1 vt)) (u := .own 14 0 1) rfl rfl rfl rfl rfl c8) rfl rfl rfl ?_
      refine dv (.ptr 0 v7 0) (cy (I0 66 (.iaddr 6 (.t 52) (.t 53)))) (ok_iaddr_o0 (j := v7) rfl rfl rfl rfl c2) rfl ?_
      refine RegD.run 1 [(67, .ptr 0 v7 4), (66, .ptr 0 v7 0), (65, .own 15 0 ((v12 ++ ([(ix ((ix (List.set (List.set v8 v7 (ix v8 v7)) v7 (ix (List.set v8 v7 (ix v8 v7)) v7)) v7).OneOf) v11)] : List (List Str))).length)), (64, .own 14 0 1), (63, eS 1 vt (ix ((ix (List.set (List.set v8 v7 (ix v8 v7)) v7 (ix (List.set v8 v7 (ix v8 v7)) v7)) v7).OneOf) v11)), (62, eS 1 vt (ix ((ix (List.set (List.set v8 v7 (ix v8 v7)) v7 (ix (List.set v8 v7 (ix v8 v7)) v7)) v7).OneOf) v11)), (61, .fptr 1 (List.map (eS 1 vt) ((ix (List.set (List.set v8 v7 (ix v8 v7)) v7 (ix (List.set v8 v7 (ix v8 v7)) v7)) v7).OneOf)) v11 0), (60, vi v11), (59, eS 1 (eS 1 vt) ((ix (List.set (List.set v8 v7 (ix v8 v7)) v7 (ix (List.set v8 v7 (ix v8 v7)) v7)) v7).OneOf)), (58, .own 1 0 v12.length), (57, .ptr 0 v7 4), (56, .ptr 0 v7 0), (55, vi v7), (54, .own 0 0 v8.length), (53, vi v7), (52, .own 0 0 v8.length), (3, .own 0 0 v8.length), (4, vi v7), (5, eS 1 (eS 1 vt) ((ix (List.set (List.set v8 v7 (ix v8 v7)) v7 (ix (List.set v8 v7 (ix v8 v7)) v7)) v7).OneOf)), (6, vi v11)] [some (.row 6 (List.set (List.map eTask (List.set (List.set v8 v7 (ix v8 v7)) v7 (ix (List.set v8 v7 (ix v8 v7)) v7))) v7 (.agg [vt ((ix (List.set (List.set v8 v7 (ix v8 v7)) v7 (ix (List.set v8 v7 (ix v8 v7)) v7)) v7).Name), vi ((ix (List.set (List.set v8 v7 (ix v8 v7)) v7 (ix (List.set v8 v7 (ix v8 v7)) v7)) v7).Cents), vi ((ix (List.set (List.set v8 v7 (ix v8 v7)) v7 (ix (List.set v8 v7 (ix v8 v7)) v7)) v7).Hours), eS 1 vt ((ix (List.set (List.set v8 v7 (ix v8 v7)) v7 (ix (List.set v8 v7 (ix v8 v7)) v7)) v7).Needs), .own 1 0 v12.length, eS 2 ePartCount ((ix (List.set (List.set v8 v7 (ix v8 v7)) v7 (ix (List.set v8 v7 (ix v8 v7)) v7)) v7).Parts)]))), none, none, none, none, none, none, none, none, none, none, none, none, none, some (.row 1 [eS 1 vt (ix ((ix (List.set (List.set v8 v7 (ix v8 v7)) v7 (ix (List.set v8 v7 (ix v8 v7)) v7)) v7).OneOf) v11)]), some (.row 1 (List.map (eS 1 vt) (v12 ++ ([(ix ((ix (List.set (List.set v8 v7 (ix v8 v7)) v7 (ix (List.set v8 v7 (ix v8 v7)) v7)) v7).OneOf) v11)] : List (List Str))))), none, none] (by kernel_rfl) ?_
      refine de (.undef) [some (.row 6 (List.set (List.map eTask (List.set (List.set v8 v7 (ix v8 v7)) v7 (ix (List.set v8 v7 (ix v8 v7)) v7))) v7 (.agg [vt ((ix (List.set (List.set v8 v7 (ix v8 v7)) v7 (ix (List.set v8 v7 (ix v8 v7)) v7)) v7).Name), vi ((ix (List.set (List.set v8 v7 (ix v8 v7)) v7 (ix (List.set v8 v7 (ix v8 v7)) v7)) v7).Cents), vi ((ix (List.set (List.set v8 v7 (ix v8 v7)) v7 (ix (List.set v8 v7 (ix v8 v7)) v7)) v7).Hours), eS 1 vt ((ix (List.set (List.set v8 v7 (ix v8 v7)) v7 (ix (List.set v8 v7 (ix v8 v7)) v7)) v7).Needs), .own 15 0 ((v12 ++ ([(ix ((ix (List.set (List.set v8 v7 (ix v8 v7)) v7 (ix (List.set v8 v7 (ix v8 v7)) v7)) v7).OneOf) v11)] : List (List Str))).length), eS 2 ePartCount ((ix (List.set (List.set v8 v7 (ix v8 v7)) v7 (ix (List.set v8 v7 (ix v8 v7)) v7)) v7).Parts)]))), none, none, none, none, none, none, none, none, none, none, none, none, none, some (.row 1 [eS 1 vt (ix ((ix (List.set (List.set v8 v7 (ix v8 v7)) v7 (ix (List.set v8 v7 (ix v8 v7)) v7)) v7).OneOf) v11)]), some (.row 1 (List.map (eS 1 vt) (v12 ++ ([(ix ((ix (List.set (List.set v8 v7 (ix v8 v7)) v7 (ix (List.set v8 v7 (ix v8 v7)) v7)) v7).OneOf) v11)] : List (List Str))))), none, none, none] (cy (IN (.store 1 (.t 67) (.t 65)))) (ok_store_s (l := (List.set (List.set v8 v7 (ix v8 v7)) v7 (ix (List.set v8 v7 (ix v8 v7)) v7))) (e := eTask) (X' := .agg [vt ((ix (List.set (List.set v8 v7 (ix v8 v7)) v7 (ix (List.set v8 v7 (ix v8 v7)) v7)) v7).Name), vi ((ix (List.set (List.set v8 v7 (ix v8 v7)) v7 (ix (List.set v8 v7 (ix v8 v7)) v7)) v7).Cents), vi ((ix (List.set (List.set v8 v7 (ix v8 v7)) v7 (ix (List.set v8 v7 (ix v8 v7)) v7)) v7).Hours), eS 1 vt ((ix (List.set (List.set v8 v7 (ix v8 v7)) v7 (ix (List.set v8 v7 (ix v8 v7)) v7)) v7).Needs), .own 15 0 ((v12 ++ ([(ix ((ix (List.set (List.set v8 v7 (ix v8 v7)) v7 (ix (List.set v8 v7 (ix v8 v7)) v7)) v7).OneOf) v11)] : List (List Str))).length), eS 2 ePartCount ((ix (List.set (List.set v8 v7 (ix v8 v7)) v7 (ix (List.set v8 v7 (ix v8 v7)) v7)) v7).Parts)]) (u := .own 15 0 ((v12 ++ ([(ix ((ix (List.set (List.set v8 v7 (ix v8 v7)) v7 (ix (List.set v8 v7 (ix v8 v7)) v7)) v7).OneOf) v11)] : List (List Str))).length)) rfl rfl rfl c5 rfl rfl) rfl rfl rfl ?_
      refine RegD.done rfl (by kernel_rfl) (S' := ⟨[(3, .own 0 0 v8.length), (4, vi v7), (5, eS 1 (eS 1 vt) ((ix (List.set (List.set v8 v7 (ix v8 v7)) v7 (ix (List.set v8 v7 (ix v8 v7)) v7)) v7).OneOf)), (6, vi v11)], [some (.row 6 (List.set (List.map eTask (List.set (List.set v8 v7 (ix v8 v7)) v7 (ix (List.set v8 v7 (ix v8 v7)) v7))) v7 (.agg [vt ((ix (List.set (List.set v8 v7 (ix v8 v7)) v7 (ix (List.set v8 v7 (ix v8 v7)) v7)) v7).Name), vi ((ix (List.set (List.set v8 v7 (ix v8 v7)) v7 (ix (List.set v8 v7 (ix v8 v7)) v7)) v7).Cents), vi ((ix (List.set (List.set v8 v7 (ix v8 v7)) v7 (ix (List.set v8 v7 (ix v8 v7)) v7)) v7).Hours), eS 1 vt ((ix (List.set (List.set v8 v7 (ix v8 v7)) v7 (ix (List.set v8 v7 (ix v8 v7)) v7)) v7).Needs), .own 1 0 ((v12 ++ ([(ix ((ix (List.set (List.set v8 v7 (ix v8 v7)) v7 (ix (List.set v8 v7 (ix v8 v7)) v7)) v7).OneOf) v11)] : List (List Str))).length), eS 2 ePartCount ((ix (List.set (List.set v8 v7 (ix v8 v7)) v7 (ix (List.set v8 v7 (ix v8 v7)) v7)) v7).Parts)]))), some (.row 1 (List.map (eS 1 vt) (v12 ++ ([(ix ((ix (List.set (List.set v8 v7 (ix v8 v7)) v7 (ix (List.set v8 v7 (ix v8 v7)) v7)) v7).OneOf) v11)] : List (List Str)))))]⟩) (sc [0, 15] (by decide) (by kernel_rfl) (obRen_set eTask_frz rfl rfl (obRen_row (eS_frz 1 vt) rfl .nil)) rfl rfl) ?_
      refine TriE.regJ ?_
      refine rn 1 [(3, .own 0 0 v8.length), (4, vi v7), (5, eS 1 (eS 1 vt) ((ix (List.set (List.set v8 v7 (ix v8 v7)) v7 (ix (List.set v8 v7 (ix v8 v7)) v7)) v7).OneOf)), (50, vi v11)] [some (.row 6 (List.set (List.map eTask (List.set (List.set v8 v7 (ix v8 v7)) v7 (ix (List.set v8 v7 (ix v8 v7)) v7))) v7 (.agg [vt ((ix (List.set (List.set v8 v7 (ix v8 v7)) v7 (ix (List.set v8 v7 (ix v8 v7)) v7)) v7).Name), vi ((ix (List.set (List.set v8 v7 (ix v8 v7)) v7 (ix (List.set v8 v7 (ix v8 v7)) v7)) v7).Cents), vi ((ix (List.set (List.set v8 v7 (ix v8 v7)) v7 (ix (List.set v8 v7 (ix v8 v7)) v7)) v7).Hours), eS 1 vt ((ix (List.set (List.set v8 v7 (ix v8 v7)) v7 (ix (List.set v8 v7 (ix v8 v7)) v7)) v7).Needs), .own 1 0 ((v12 ++ ([(ix ((ix (List.set (List.set v8 v7 (ix v8 v7)) v7 (ix (List.set v8 v7 (ix v8 v7)) v7)) v7).OneOf) v11)] : List (List Str))).length), eS 2 ePartCount ((ix (List.set (List.set v8 v7 (ix v8 v7)) v7 (ix (List.set v8 v7 (ix v8 v7)) v7)) v7).Parts)]))), some (.row 1 (List.map (eS 1 vt) (v12 ++ ([(ix ((ix (List.set (List.set v8 v7 (ix v8 v7)) v7 (ix (List.set v8 v7 (ix v8 v7)) v7)) v7).OneOf) v11)] : List (List Str)))))] ?_
      obtain ⟨c9, h⟩ := chk_some h
      refine jv (vi ((v11 + 1 : Nat) : Int)) (cy (I0 51 (.bin .add false (.t 50) (.c (.p (.int .i64 1)))))) (r_addn (i := v11) (j := 1) rfl rfl c9) rfl ?_
      refine jq 1 [(3, .own 0 0 v8.length), (4, vi v7), (5, eS 1 (eS 1 vt) ((ix (List.set (List.set v8 v7 (ix v8 v7)) v7 (ix (List.set v8 v7 (ix v8 v7)) v7)) v7).OneOf)), (6, vi ((v11 + 1 : Nat) : Int))] [some (.row 6 (List.set (List.map eTask (List.set (List.set v8 v7 (ix v8 v7)) v7 (ix (List.set v8 v7 (ix v8 v7)) v7))) v7 (.agg [vt ((ix (List.set (List.set v8 v7 (ix v8 v7)) v7 (ix (List.set v8 v7 (ix v8 v7)) v7)) v7).Name), vi ((ix (List.set (List.set v8 v7 (ix v8 v7)) v7 (ix (List.set v8 v7 (ix v8 v7)) v7)) v7).Cents), vi ((ix (List.set (List.set v8 v7 (ix v8 v7)) v7 (ix (List.set v8 v7 (ix v8 v7)) v7)) v7).Hours), eS 1 vt ((ix (List.set (List.set v8 v7 (ix v8 v7)) v7 (ix (List.set v8 v7 (ix v8 v7)) v7)) v7).Needs), .own 1 0 ((v12 ++ ([(ix ((ix (List.set (List.set v8 v7 (ix v8 v7)) v7 (ix (List.set v8 v7 (ix v8 v7)) v7)) v7).OneOf) v11)] : List (List Str))).length), eS 2 ePartCount ((ix (List.set (List.set v8 v7 (ix v8 v7)) v7 (ix (List.set v8 v7 (ix v8 v7)) v7)) v7).Parts)]))), some (.row 1 (List.map (eS 1 vt) (v12 ++ ([(ix ((ix (List.set (List.set v8 v7 (ix v8 v7)) v7 (ix (List.set v8 v7 (ix v8 v7)) v7)) v7).OneOf) v11)] : List (List Str)))))] ?_
      exact Vs.intro sy ⟨(v11 + 1, (v12 ++ ([(ix ((ix (List.set (List.set v8 v7 (ix v8 v7)) v7 (ix (List.set v8 v7 (ix v8 v7)) v7)) v7).OneOf) v11)] : List (List Str)))), rfl, h⟩
    have h := cond_f h c6
    refine TriE.exit ?_
    exact Vs.intro sy ⟨v12, rfl, h⟩
  have h := cond_f h c2
  refine TriE.exit ?_
  exact Vs.intro sy ⟨v8, rfl, h⟩
theorem restore_isName_ok (n : Nat) (a0 : Str) (r : Bool) (h : restore_isName n a0 = some r) : FnL Tryz.prog 89 [vt a0] [] (vb r) [] := by
  dsimp only [restore_isName] at h
  refine FnL.ofS (ts := [2]) Tryz.call89 Tryz.func89 rfl rfl (Nat.le_of_ble_eq_true rfl) (Nat.le_of_ble_eq_true rfl) (fun j h => absurd h (Nat.not_lt_zero j)) ?_
  refine sr [(0, vt a0)] [] ?_
  refine TriE.seqK h (fun (_ : Unit) => St.mk [(0, vt a0)] []) ?_ ?_
  · rintro ⟨⟩ h
    refine sj ?_
    refine rn 3 [(0, vt a0), (49, vb (!(a0 == ([] : Str))))] [] ?_
    refine RegJ.op (Op1.valk (v := vt a0) _ _ (cy (IG 50 (.mov (.t 0)) 49 true)) rfl (by kernel_rfl) (fun hg => (.cons rfl .nil))) ?_
    refine RegJ.op (Op1.valg (v := vi (a0.length : Int)) _ _ (cy (IG 51 (.len 1 (.t 50)) 49 true)) rfl (fun hg => (ok_len_t rfl)) (fun hg => (.cons hg .nil))) ?_
    refine RegJ.op (Op1.valg (v := vb (decide (a0.length ≤ 12))) _ _ (cy (IG 52 (.bin .leq false (.t 51) (.c (.p (.int .i64 12)))) 49 true)) rfl (fun hg => (n_leq (i := a0.length) (j := 12) rfl rfl)) (fun hg => (.cons hg (.cons rfl .nil)))) ?_
    refine RegJ.op (Op1.and (cy (I0 53 (.pick (.t 49) (.t 52) (.c (.p (.bool false)))))) rfl rfl (by first | exact hokA1 | exact hokA0 | simp)) ?_
    refine jq 1 [(2, vb ((!(a0 == ([] : Str))) && (decide (a0.length ≤ 12))))] [] ?_
    refine TriE.ret ?_
    have h := Option.some.inj h
    subst h
    exact DoneS.ret (S' := ⟨[(2, vb ((!(a0 == ([] : Str))) && (decide (a0.length ≤ 12))))], []⟩) Sees.refl rfl rfl
  intro k1 h
  refine sj ?_
  refine rn 1 [(0, vt a0), (6, vt a0)] [] ?_
  refine RegJ.op (Op1.bytes (s := ⟨⟨a0⟩⟩) _ (cy (I0 7 (.bytes (.t 6)))) rfl (.cons rfl .nil)) ?_
  refine jv (vi (a0.length : Int)) (cy (I0 8 (.len 0 (.t 7)))) (ok_len_m rfl) rfl ?_
  refine jq 1 [(0, vt a0), (7, eS 1 vbyte a0), (8, vi (a0.length : Int)), (9, vi 0)] [] ?_
  refine TriE.block ?_
  refine TriE.sees (S' := ⟨[(0, vt a0), (7, eS 1 vbyte a0), (8, vi (a0.length : Int)), (9, vi 0)], []⟩) sy ?_
  refine TriE.loopN h (fun (v1 : Nat) => St.mk [(0, vt a0), (7, eS 1 vbyte a0), (8, vi (a0.length : Int)), (9, vi v1)] []) rfl ?_
  clear h
  rintro back v1 h
  dsimp only [restore_isName_L1] at h
  refine sj ?_
  refine jv (vb (decide (v1 < a0.length))) (cy (I0 10 (.bin .lss false (.t 9) (.t 8)))) (n_lss (i := v1) (j := a0.length) rfl rfl) rfl ?_
  refine jp [(0, vt a0), (7, eS 1 vbyte a0), (8, vi (a0.length : Int)), (9, vi v1), (10, vb (decide (v1 < a0.length)))] ?_
  refine TriE.seq ?_
  refine TriE.cond (b := decide (v1 < a0.length)) rfl (fun c1 => ?_) (fun c1 => ?_)
  · have h := cond_t h c1
    refine TriE.skip ?_
    refine TriE.seq ?_
    refine TriE.block ?_
    refine sj ?_
    refine rn 1 [(0, vt a0), (7, eS 1 vbyte a0), (8, vi (a0.length : Int)), (9, vi v1), (11, vi v1)] [] ?_
    refine jv (.fptr 1 (List.map vbyte a0) v1 0) (cy (I0 12 (.iaddr 1 (.t 7) (.t 9)))) (ok_iaddr_m (j := v1) rfl rfl rfl c1) rfl ?_
    refine jv (vk .u8 (((ix a0 v1).toNat : Nat) : Int)) (cy (I0 13 (.load false 1 (.t 12)))) (ok_load_fm (v := vk .u8 (((ix a0 v1).toNat : Nat) : Int)) rfl c1 rfl) rfl ?_
    refine jq 2 [(0, vt a0), (7, eS 1 vbyte a0), (8, vi (a0.length : Int)), (9, vi v1), (3, vi v1), (4, vk .u8 (((ix a0 v1).toNat : Nat) : Int))] [] ?_
    refine sj ?_
    refine rn 3 [(0, vt a0), (7, eS 1 vbyte a0), (8, vi (a0.length : Int)), (9, vi v1), (3, vi v1), (4, vk .u8 (((ix a0 v1).toNat : Nat) : Int)), (16, vb (decide ((97 : Int) ≤ (((ix a0 v1).toNat : Nat) : Int))))] [] ?_
    refine RegJ.op (Op1.valk (v := vk .u8 (((ix a0 v1).toNat : Nat) : Int)) _ _ (cy (IG 17 (.mov (.t 4)) 16 true)) rfl (by kernel_rfl) (fun hg => (.cons rfl .nil))) ?_
    refine RegJ.op (Op1.valk (v := vb (decide ((((ix a0 v1).toNat : Nat) : Int) ≤ (122 : Int)))) _ _ (cy (IG 18 (.bin .leq false (.t 17) (.c (.p (.int .u8 122)))) 16 true)) rfl (by kernel_rfl) (fun hg => (.cons hg (.cons rfl .nil)))) ?_
    refine RegJ.op (Op1.and (cy (I0 19 (.pick (.t 16) (.t 18) (.c (.p (.bool false)))))) rfl rfl (by first | exact hokA1 | exact hokA0 | simp)) ?_
    refine rn 1 [(0, vt a0), (7, eS 1 vbyte a0), (8, vi (a0.length : Int)), (9, vi v1), (3, vi v1), (4, vk .u8 (((ix a0 v1).toNat : Nat) : Int)), (17, .cond (decide ((97 : Int) ≤ (((ix a0 v1).toNat : Nat) : Int))) (vk .u8 (((ix a0 v1).toNat : Nat) : Int))), (18, .cond (decide ((97 : Int) ≤ (((ix a0 v1).toNat : Nat) : Int))) (vb (decide ((((ix a0 v1).toNat : Nat) : Int) ≤ (122 : Int))))), (20, vb ((decide ((97 : Int) ≤ (((ix a0 v1).toNat : Nat) : Int))) && (decide ((((ix a0 v1).toNat : Nat) : Int) ≤ (122 : Int)))))] [] ?_
    refine RegJ.op (Op1.valk (v := vk .u8 (((ix a0 v1).toNat : Nat) : Int)) _ _ (cy (IG 21 (.mov (.t 4)) 20 false)) rfl (by kernel_rfl) (fun hg => (.cons rfl .nil))) ?_
    refine RegJ.op (Op1.valk (v := vb (decide ((65 : Int) ≤ (((ix a0 v1).toNat : Nat) : Int)))) _ _ (cy (IG 22 (.bin .geq false (.t 21) (.c (.p (.int .u8 65)))) 20 false)) rfl (by kernel_rfl) (fun hg => (.cons hg (.cons rfl .nil)))) ?_
    refine RegJ.op (Op1.valk (v := vb (decide ((65 : Int) ≤ (((ix a0 v1).toNat : Nat) : Int)))) _ _ (cy (IG 23 (.mov (.t 22)) 20 false)) rfl (by kernel_rfl) (fun hg => (.cons hg .nil))) ?_
    refine RegJ.op (Op1.valk (v := vk .u8 (((ix a0 v1).toNat : Nat) : Int)) _ _ (cy (IG 24 (.mov (.t 4)) 23 true)) rfl (by kernel_rfl) (fun hg => (.cons rfl .nil))) ?_
    refine RegJ.op (Op1.valk (v := vb (decide ((((ix a0 v1).toNat : Nat) : Int) ≤ (90 : Int)))) _ _ (cy (IG 25 (.bin .leq false (.t 24) (.c (.p (.int .u8 90)))) 23 true)) rfl (by kernel_rfl) (fun hg => (.cons hg (.cons rfl .nil)))) ?_
    refine RegJ.op (Op1.andg (g := !((decide ((97 : Int) ≤ (((ix a0 v1).toNat : Nat) : Int))) && (decide ((((ix a0 v1).toNat : Nat) : Int) ≤ (122 : Int))))) (cy (IG 26 (.pick (.t 23) (.t 25) (.c (.p (.bool false)))) 20 false)) rfl rfl rfl (fun hg => by first | exact hokA2 hg | exact hokA3 hg | exact hokA1 | exact hokA0 | (rw [hg]; simp) | simp_all)) ?_
    refine RegJ.op (Op1.or (cy (I0 27 (.pick (.t 20) (.c (.p (.bool true))) (.t 26)))) rfl rfl (by first | exact hokO1 | exact hokO0 | simp)) ?_
    refine jq 1 [(0, vt a0), (7, eS 1 vbyte a0), (8, vi (a0.length : Int)), (9, vi v1), (3, vi v1), (4, vk .u8 (((ix a0 v1).toNat : Nat) : Int)), (5, vb (((decide ((97 : Int) ≤ (((ix a0 v1).toNat : Nat) : Int))) && (decide ((((ix a0 v1).toNat : Nat) : Int) ≤ (122 : Int)))) || ((decide ((65 : Int) ≤ (((ix a0 v1).toNat : Nat) : Int))) && (decide ((((ix a0 v1).toNat : Nat) : Int) ≤ (90 : Int))))))] [] ?_
    refine sj ?_
    refine rn 3 [(0, vt a0), (7, eS 1 vbyte a0), (8, vi (a0.length : Int)), (9, vi v1), (3, vi v1), (4, vk .u8 (((ix a0 v1).toNat : Nat) : Int)), (30, vb (!(((decide ((97 : Int) ≤ (((ix a0 v1).toNat : Nat) : Int))) && (decide ((((ix a0 v1).toNat : Nat) : Int) ≤ (122 : Int)))) || ((decide ((65 : Int) ≤ (((ix a0 v1).toNat : Nat) : Int))) && (decide ((((ix a0 v1).toNat : Nat) : Int) ≤ (90 : Int)))))))] [] ?_
    refine RegJ.op (Op1.valk (v := vi v1) _ _ (cy (IG 31 (.mov (.t 3)) 30 true)) rfl (by kernel_rfl) (fun hg => (.cons rfl .nil))) ?_
    refine RegJ.op (Op1.valg (v := vb (decide (v1 = 0))) _ _ (cy (IG 32 (.bin .eql false (.t 31) (.c (.p (.int .i64 0)))) 30 true)) rfl (fun hg => (n_eql (i := v1) (j := 0) rfl rfl)) (fun hg => (.cons hg (.cons rfl .nil)))) ?_
    refine RegJ.op (Op1.valk (v := vb (decide (v1 = 0))) _ _ (cy (IG 33 (.mov (.t 32)) 30 true)) rfl (by kernel_rfl) (fun hg => (.cons hg .nil))) ?_
    refine RegJ.op (Op1.valk (v := vk .u8 (((ix a0 v1).toNat : Nat) : Int)) _ _ (cy (IG 34 (.mov (.t 4)) 33 false)) rfl (by kernel_rfl) (fun hg => (.cons rfl .nil))) ?_
    refine RegJ.op (Op1.valk (v := vb ((((ix a0 v1).toNat : Nat) : Int) != (45 : Int))) _ _ (cy (IG 35 (.bin .neq false (.t 34) (.c (.p (.int .u8 45)))) 33 false)) rfl (by kernel_rfl) (fun hg => (.cons hg (.cons rfl .nil)))) ?_
    refine RegJ.op (Op1.valk (v := vb ((((ix a0 v1).toNat : Nat) : Int) != (45 : Int))) _ _ (cy (IG 36 (.mov (.t 35)) 33 false)) rfl (by kernel_rfl) (fun hg => (.cons hg .nil))) ?_
    refine RegJ.op (Op1.valk (v := vk .u8 (((ix a0 v1).toNat : Nat) : Int)) _ _ (cy (IG 37 (.mov (.t 4)) 36 true)) rfl (by kernel_rfl) (fun hg => (.cons rfl .nil))) ?_
    refine RegJ.op (Op1.valk (v := vb (decide ((((ix a0 v1).toNat : Nat) : Int) < (48 : Int)))) _ _ (cy (IG 38 (.bin .lss false (.t 37) (.c (.p (.int .u8 48)))) 36 true)) rfl (by kernel_rfl) (fun hg => (.cons hg (.cons rfl .nil)))) ?_
    refine RegJ.op (Op1.valk (v := vb (decide ((((ix a0 v1).toNat : Nat) : Int) < (48 : Int)))) _ _ (cy (IG 39 (.mov (.t 38)) 36 true)) rfl (by kernel_rfl) (fun hg => (.cons hg .nil))) ?_
    refine RegJ.op (Op1.valk (v := vk .u8 (((ix a0 v1).toNat : Nat) : Int)) _ _ (cy (IG 40 (.mov (.t 4)) 39 false)) rfl (by kernel_rfl) (fun hg => (.cons rfl .nil))) ?_
    refine RegJ.op (Op1.valk (v := vb (decide ((57 : Int) < (((ix a0 v1).toNat : Nat) : Int)))) _ _ (cy (IG 41 (.bin .gtr false (.t 40) (.c (.p (.int .u8 57)))) 39 false)) rfl (by kernel_rfl) (fun hg => (.cons hg (.cons rfl .nil)))) ?_
    refine RegJ.op (Op1.org (g := ((!(((decide ((97 : Int) ≤ (((ix a0 v1).toNat : Nat) : Int))) && (decide ((((ix a0 v1).toNat : Nat) : Int) ≤ (122 : Int)))) || ((decide ((65 : Int) ≤ (((ix a0 v1).toNat : Nat) : Int))) && (decide ((((ix a0 v1).toNat : Nat) : Int) ≤ (90 : Int)))))) && !(decide (v1 = 0))) && ((((ix a0 v1).toNat : Nat) : Int) != (45 : Int))) (cy (IG 42 (.pick (.t 39) (.c (.p (.bool true))) (.t 41)) 36 true)) rfl rfl rfl (fun hg => by first | exact hokO2 hg | exact hokO3 hg | exact hokO1 | exact hokO0 | (rw [hg]; simp) | simp_all)) ?_
    refine RegJ.op (Op1.andg (g := (!(((decide ((97 : Int) ≤ (((ix a0 v1).toNat : Nat) : Int))) && (decide ((((ix a0 v1).toNat : Nat) : Int) ≤ (122 : Int)))) || ((decide ((65 : Int) ≤ (((ix a0 v1).toNat : Nat) : Int))) && (decide ((((ix a0 v1).toNat : Nat) : Int) ≤ (90 : Int)))))) && !(decide (v1 = 0))) (cy (IG 43 (.pick (.t 36) (.t 42) (.c (.p (.bool false)))) 33 false)) rfl rfl rfl (fun hg => by first | exact hokA2 hg | exact hokA3 hg | exact hokA1 | exact hokA0 | (rw [hg]; simp) | simp_all)) ?_
    refine RegJ.op (Op1.org (g := !(((decide ((97 : Int) ≤ (((ix a0 v1).toNat : Nat) : Int))) && (decide ((((ix a0 v1).toNat : Nat) : Int) ≤ (122 : Int)))) || ((decide ((65 : Int) ≤ (((ix a0 v1).toNat : Nat) : Int))) && (decide ((((ix a0 v1).toNat : Nat) : Int) ≤ (90 : Int)))))) (cy (IG 44 (.pick (.t 33) (.c (.p (.bool true))) (.t 43)) 30 true)) rfl rfl rfl (fun hg => by first | exact hokO2 hg | exact hokO3 hg | exact hokO1 | exact hokO0 | (rw [hg]; simp) | simp_all)) ?_
    refine RegJ.op (Op1.and (cy (I0 45 (.pick (.t 30) (.t 44) (.c (.p (.bool false)))))) rfl rfl (by first | exact hokA1 | exact hokA0 | simp)) ?_
    refine jp [(0, vt a0), (7, eS 1 vbyte a0), (8, vi (a0.length : Int)), (9, vi v1), (45, vb ((!(((decide ((97 : Int) ≤ (((ix a0 v1).toNat : Nat) : Int))) && (decide ((((ix a0 v1).toNat : Nat) : Int) ≤ (122 : Int)))) || ((decide ((65 : Int) ≤ (((ix a0 v1).toNat : Nat) : Int))) && (decide ((((ix a0 v1).toNat : Nat) : Int) ≤ (90 : Int)))))) && ((decide (v1 = 0)) || (((((ix a0 v1).toNat : Nat) : Int) != (45 : Int)) && ((decide ((((ix a0 v1).toNat : Nat) : Int) < (48 : Int))) || (decide ((57 : Int) < (((ix a0 v1).toNat : Nat) : Int))))))))] ?_
    refine TriE.cond (b := (!(((decide ((97 : Int) ≤ (((ix a0 v1).toNat : Nat) : Int))) && (decide ((((ix a0 v1).toNat : Nat) : Int) ≤ (122 : Int)))) || ((decide ((65 : Int) ≤ (((ix a0 v1).toNat : Nat) : Int))) && (decide ((((ix a0 v1).toNat : Nat) : Int) ≤ (90 : Int)))))) && ((decide (v1 = 0)) || (((((ix a0 v1).toNat : Nat) : Int) != (45 : Int)) && ((decide ((((ix a0 v1).toNat : Nat) : Int) < (48 : Int))) || (decide ((57 : Int) < (((ix a0 v1).toNat : Nat) : Int))))))) rfl (fun c2 => ?_) (fun c2 => ?_)
    · have h := cond_t h c2
      refine sr [(2, vb false)] [] ?_
      refine TriE.ret ?_
      have h := Option.some.inj h
      subst h
      exact DoneS.ret (S' := ⟨[(2, vb false)], []⟩) Sees.refl rfl rfl
    have h := cond_f h c2
    refine TriE.skip ?_
    refine TriE.regJ ?_
    obtain ⟨c3, h⟩ := chk_some h
    refine jv (vi ((v1 + 1 : Nat) : Int)) (cy (I0 46 (.bin .add false (.t 9) (.c (.p (.int .i64 1)))))) (r_addn (i := v1) (j := 1) rfl rfl c3) rfl ?_
    refine jq 1 [(0, vt a0), (7, eS 1 vbyte a0), (8, vi (a0.length : Int)), (9, vi ((v1 + 1 : Nat) : Int))] [] ?_
    exact Vs.intro sy ⟨(v1 + 1), rfl, h⟩
  have h := cond_f h c1
  refine TriE.exit ?_
  exact Vs.intro sy ⟨(), rfl, h⟩
theorem restore_list_find_f1_ok (n : Nat) (a0 : Task) (a1 : Str) (r : Unit) (h : restore_list_find_f1 n a0 a1 = some r) : FnL Tryz.prog 171 [.agg [vt a0.Name, vi a0.Cents, vi a0.Hours, eS 1 vt a0.Needs, eS 1 (eS 1 vt) a0.OneOf, eS 2 ePartCount a0.Parts], .ptr 0 0 0] [some (.row 1 [vt a1])] (vb (a0.Name == a1)) [some (.row 1 [vt a1])] := by
  dsimp only [restore_list_find_f1] at h
  refine FnL.ofS (ts := [3]) Tryz.call171 Tryz.func171 rfl rfl (Nat.le_of_ble_eq_true rfl) (Nat.le_of_ble_eq_true rfl) (hall_of (.cons rfl .nil)) ?_
  refine sr [(1, .ptr 0 0 0), (2, .ptr 1 0 0)] [some (.row 1 [vt a1]), some (.row 6 [.agg [vt a0.Name, vi a0.Cents, vi a0.Hours, eS 1 vt a0.Needs, eS 1 (eS 1 vt) a0.OneOf, eS 2 ePartCount a0.Parts]])] ?_
  refine sr [(3, vb (a0.Name == a1))] [some (.row 1 [vt a1]), some (.row 6 [.agg [vt a0.Name, vi a0.Cents, vi a0.Hours, eS 1 vt a0.Needs, eS 1 (eS 1 vt) a0.OneOf, eS 2 ePartCount a0.Parts]])] ?_
  refine TriE.ret ?_
  have h := Option.some.inj h
  subst h
  exact DoneS.ret (S' := ⟨[(3, vb (a0.Name == a1))], [some (.row 1 [vt a1])]⟩) (sc [0] (by decide) (by kernel_rfl) (.cons rfl .nil) rfl rfl) rfl rfl
theorem slices_IndexFunc_Task_ok (n : Nat) (a0 : List Task) (a1 : Str) (r : Int) (h : slices_IndexFunc_Task n a0 a1 = some r) : FnL Tryz.prog 155 [eS 6 eTask a0, .fn (.func 171) [] [.ptr 0 0 0]] [some (.row 1 [vt a1])] (vi r) [some (.row 1 [vt a1])] := by
  dsimp only [slices_IndexFunc_Task] at h
  refine FnL.ofS (ts := [4]) Tryz.call155 Tryz.func155 rfl rfl (Nat.le_of_ble_eq_true rfl) (Nat.le_of_ble_eq_true rfl) (hall_of (.cons rfl .nil)) ?_
  refine sr [(0, eS 6 eTask a0), (1, .fn (.func 171) [] [.ptr 0 0 0])] [some (.row 1 [vt a1])] ?_
  refine TriE.seqK h (fun (_ : Unit) => St.mk [] [some (.row 1 [vt a1])]) ?_ ?_
  · rintro ⟨⟩ h
    refine sr [(4, vi (-1))] [some (.row 1 [vt a1])] ?_
    refine TriE.ret ?_
    have h := Option.some.inj h
    subst h
    exact DoneS.ret (S' := ⟨[(4, vi (-1))], [some (.row 1 [vt a1])]⟩) Sees.refl rfl rfl
  intro k1 h
  refine sj ?_
  refine rn 1 [(0, eS 6 eTask a0), (1, .fn (.func 171) [] [.ptr 0 0 0]), (6, eS 6 eTask a0)] [some (.row 1 [vt a1])] ?_
  refine jv (vi (a0.length : Int)) (cy (I0 7 (.len 0 (.t 6)))) (ok_len_m rfl) rfl ?_
  refine jq 1 [(0, eS 6 eTask a0), (1, .fn (.func 171) [] [.ptr 0 0 0]), (7, vi (a0.length : Int)), (8, vi 0)] [some (.row 1 [vt a1])] ?_
  refine TriE.block ?_
  refine TriE.sees (S' := ⟨[(0, eS 6 eTask a0), (1, .fn (.func 171) [] [.ptr 0 0 0]), (7, vi (a0.length : Int)), (8, vi 0)], [some (.row 1 [vt a1])]⟩) sy ?_
  refine TriE.loopN h (fun (v2 : Nat) => St.mk [(0, eS 6 eTask a0), (1, .fn (.func 171) [] [.ptr 0 0 0]), (7, vi (a0.length : Int)), (8, vi v2)] [some (.row 1 [vt a1])]) rfl ?_
  clear h
  rintro back v2 h
  dsimp only [slices_IndexFunc_Task_L1] at h
  refine sj ?_
  refine jv (vb (decide (v2 < a0.length))) (cy (I0 9 (.bin .lss false (.t 8) (.t 7)))) (n_lss (i := v2) (j := a0.length) rfl rfl) rfl ?_
  refine jp [(0, eS 6 eTask a0), (1, .fn (.func 171) [] [.ptr 0 0 0]), (7, vi (a0.length : Int)), (8, vi v2), (9, vb (decide (v2 < a0.length)))] ?_
  refine TriE.seq ?_
  refine TriE.cond (b := decide (v2 < a0.length)) rfl (fun c1 => ?_) (fun c1 => ?_)
  · have h := cond_t h c1
    refine TriE.skip ?_
    refine TriE.seq ?_
    refine TriE.block ?_
    refine sr [(0, eS 6 eTask a0), (1, .fn (.func 171) [] [.ptr 0 0 0]), (7, vi (a0.length : Int)), (8, vi v2), (5, vi v2)] [some (.row 1 [vt a1])] ?_
    refine sj ?_
    refine rn 3 [(0, eS 6 eTask a0), (1, .fn (.func 171) [] [.ptr 0 0 0]), (7, vi (a0.length : Int)), (8, vi v2), (5, vi v2), (11, .fn (.func 171) [] [.ptr 0 0 0]), (12, eS 6 eTask a0), (13, vi v2)] [some (.row 1 [vt a1])] ?_
    refine jv (.fptr 6 (List.map eTask a0) v2 0) (cy (I0 14 (.iaddr 6 (.t 12) (.t 13)))) (ok_iaddr_m (j := v2) rfl rfl rfl c1) rfl ?_
    refine jv (.agg [vt ((ix a0 v2).Name), vi ((ix a0 v2).Cents), vi ((ix a0 v2).Hours), eS 1 vt ((ix a0 v2).Needs), eS 1 (eS 1 vt) ((ix a0 v2).OneOf), eS 2 ePartCount ((ix a0 v2).Parts)]) (cy (I0 15 (.load true 6 (.t 14)))) (ok_load_fm (v := .agg [vt ((ix a0 v2).Name), vi ((ix a0 v2).Cents), vi ((ix a0 v2).Hours), eS 1 vt ((ix a0 v2).Needs), eS 1 (eS 1 vt) ((ix a0 v2).OneOf), eS 2 ePartCount ((ix a0 v2).Parts)]) rfl c1 rfl) rfl ?_
    obtain ⟨y3, hy3, h⟩ := bind_some h
    refine RegJ.op (Op1.dyn (y' := vb ((ix a0 v2).Name == a1)) (obx := [some (.row 1 [vt a1])]) (oby := [some (.row 1 [vt a1])]) (ob2 := [some (.row 1 [vt a1])]) _ _ _ (cy (I0 16 (.dyn (.t 11) [(.t 15)]))) rfl rfl (restore_list_find_f1_ok n (ix a0 v2) a1 y3 hy3) [0] (by kernel_rfl) (.cons rfl (.cons rfl .nil)) (by kernel_rfl) (by kernel_rfl) (.cons rfl .nil) (by kernel_rfl) (.cons rfl .nil) (by kernel_rfl)) ?_
    refine jp [(0, eS 6 eTask a0), (1, .fn (.func 171) [] [.ptr 0 0 0]), (7, vi (a0.length : Int)), (8, vi v2), (5, vi v2), (16, vb ((ix a0 v2).Name == a1))] ?_
    refine TriE.cond (b := ((ix a0 v2).Name == a1)) rfl (fun c2 => ?_) (fun c2 => ?_)
    · have h := cond_t h c2
      refine sr [(4, vi v2)] [some (.row 1 [vt a1])] ?_
      refine TriE.ret ?_
      have h := Option.some.inj h
      subst h
      exact DoneS.ret (S' := ⟨[(4, vi v2)], [some (.row 1 [vt a1])]⟩) Sees.refl rfl rfl
    have h := cond_f h c2
    refine TriE.skip ?_
    refine TriE.regJ ?_
    obtain ⟨c3, h⟩ := chk_some h
    refine jv (vi ((v2 + 1 : Nat) : Int)) (cy (I0 18 (.bin .add false (.t 8) (.c (.p (.int .i64 1)))))) (r_addn (i := v2) (j := 1) rfl rfl c3) rfl ?_
    refine jq 1 [(0, eS 6 eTask a0), (1, .fn (.func 171) [] [.ptr 0 0 0]), (7, vi (a0.length : Int)), (8, vi ((v2 + 1 : Nat) : Int))] [some (.row 1 [vt a1])] ?_
    exact Vs.intro sy ⟨(v2 + 1), rfl, h⟩
  have h := cond_f h c1
  refine TriE.exit ?_
  exact Vs.intro sy ⟨(), rfl, h⟩
theorem restore_list_find_ok (n : Nat) (a0 : List Task) (a1 : Str) (r : Int) (h : restore_list_find n a0 a1 = some r) : FnL Tryz.prog 117 [eS 6 eTask a0, vt a1] [] (vi r) [] := by
  dsimp only [restore_list_find] at h
  refine FnL.ofS (ts := [4]) Tryz.call117 Tryz.func117 rfl rfl (Nat.le_of_ble_eq_true rfl) (Nat.le_of_ble_eq_true rfl) (fun j h => absurd h (Nat.not_lt_zero j)) ?_
  refine sr [(0, eS 6 eTask a0), (3, .ptr 0 0 0)] [some (.row 1 [vt a1])] ?_
  refine sj ?_
  refine rn 2 [(5, eS 6 eTask a0), (6, .fn (.func 171) [] [.ptr 0 0 0])] [some (.row 1 [vt a1])] ?_
  obtain ⟨y1, hy1, h⟩ := bind_some h
  refine RegJ.op (Op1.call (y' := vi y1) (obx := [some (.row 1 [vt a1])]) (oby := [some (.row 1 [vt a1])]) (ob2 := [some (.row 1 [vt a1])]) _ _ (cy (I0 7 (.call 155 [(.t 5), (.t 6)]))) rfl (slices_IndexFunc_Task_ok n a0 a1 y1 hy1) [0] (by kernel_rfl) (.cons rfl (.cons rfl (.cons rfl .nil))) (by kernel_rfl) (by kernel_rfl) (.cons rfl .nil) (by kernel_rfl) (.cons rfl .nil) (by kernel_rfl)) ?_
  refine jq 1 [(4, vi y1)] [some (.row 1 [vt a1])] ?_
  refine TriE.ret ?_
  have h := Option.some.inj h
  subst h
  exact DoneS.ret (S' := ⟨[(4, vi y1)], []⟩) (sc [] (by decide) (by kernel_rfl) ObRen.nil rfl rfl) rfl rfl
theorem restore_within_ok (n : Nat) (a0 : Int) (a1 : Int) (a2 : Int) (r : Unit) (h : restore_within n a0 a1 a2 = some r) : FnL Tryz.prog 91 [vi a0, vi a1, vi a2] [] (vb ((decide (a1 ≤ a0)) && (decide (a0 ≤ a2)))) [] := by
  dsimp only [restore_within] at h
  refine FnL.ofS (ts := [6]) Tryz.call91 Tryz.func91 rfl rfl (Nat.le_of_ble_eq_true rfl) (Nat.le_of_ble_eq_true rfl) (fun j h => absurd h (Nat.not_lt_zero j)) ?_
  refine sr [(0, vi a0), (1, vi a1), (2, vi a2)] [] ?_
  refine sj ?_
  refine rn 4 [(0, vi a0), (2, vi a2), (10, vb (decide (a1 ≤ a0)))] [] ?_
  refine RegJ.op (Op1.valk (v := vi a0) _ _ (cy (IG 11 (.mov (.t 0)) 10 true)) rfl (by kernel_rfl) (fun hg => (.cons rfl .nil))) ?_
  refine RegJ.op (Op1.valk (v := vi a2) _ _ (cy (IG 12 (.mov (.t 2)) 10 true)) rfl (by kernel_rfl) (fun hg => (.cons rfl .nil))) ?_
  refine RegJ.op (Op1.valk (v := vb (decide (a0 ≤ a2))) _ _ (cy (IG 13 (.bin .leq false (.t 11) (.t 12)) 10 true)) rfl (by kernel_rfl) (fun hg => (.cons hg (.cons hg .nil)))) ?_
  refine RegJ.op (Op1.and (cy (I0 14 (.pick (.t 10) (.t 13) (.c (.p (.bool false)))))) rfl rfl (by first | exact hokA1 | exact hokA0 | simp)) ?_
  refine jq 1 [(6, vb ((decide (a1 ≤ a0)) && (decide (a0 ≤ a2))))] [] ?_
  refine TriE.ret ?_
  have h := Option.some.inj h
  subst h
  exact DoneS.ret (S' := ⟨[(6, vb ((decide (a1 ≤ a0)) && (decide (a0 ≤ a2))))], []⟩) Sees.refl rfl rfl
theorem restore_list_checkTask_f1_ok (n : Nat) (a0 : List Str) (r : Unit) (h : restore_list_checkTask_f1 n a0 = some r) : FnL Tryz.prog 152 [eS 1 vt a0] [] (vb (decide (6 < a0.length))) [] := by
  dsimp only [restore_list_checkTask_f1] at h
  refine FnL.ofS (ts := [2]) Tryz.call152 Tryz.func152 rfl rfl (Nat.le_of_ble_eq_true rfl) (Nat.le_of_ble_eq_true rfl) (fun j h => absurd h (Nat.not_lt_zero j)) ?_
  refine sr [(0, eS 1 vt a0)] [] ?_
  refine sj ?_
  refine rn 1 [(3, eS 1 vt a0)] [] ?_
  refine jv (vi (a0.length : Int)) (cy (I0 4 (.len 0 (.t 3)))) (ok_len_m rfl) rfl ?_
  refine jv (vb (decide (6 < a0.length))) (cy (I0 5 (.bin .gtr false (.t 4) (.c (.p (.int .i64 6)))))) (n_gtr (i := a0.length) (j := 6) rfl rfl) rfl ?_
  refine jq 1 [(2, vb (decide (6 < a0.length)))] [] ?_
  refine TriE.ret ?_
  have h := Option.some.inj h
  subst h
  exact DoneS.ret (S' := ⟨[(2, vb (decide (6 < a0.length)))], []⟩) Sees.refl rfl rfl
theorem slices_IndexFunc_string_ok (n : Nat) (a0 : List (List Str)) (r : Int) (h : slices_IndexFunc_string n a0 = some r) : FnL Tryz.prog 172 [eS 1 (eS 1 vt) a0, .fn (.func 152) [] []] [] (vi r) [] := by
  dsimp only [slices_IndexFunc_string] at h
  refine FnL.ofS (ts := [4]) Tryz.call172 Tryz.func172 rfl rfl (Nat.le_of_ble_eq_true rfl) (Nat.le_of_ble_eq_true rfl) (fun j h => absurd h (Nat.not_lt_zero j)) ?_
  refine sr [(0, eS 1 (eS 1 vt) a0), (1, .fn (.func 152) [] [])] [] ?_
  refine TriE.seqK h (fun (_ : Unit) => St.mk [] []) ?_ ?_
  · rintro ⟨⟩ h
    refine sr [(4, vi (-1))] [] ?_
    refine TriE.ret ?_
    have h := Option.some.inj h
    subst h
    exact DoneS.ret (S' := ⟨[(4, vi (-1))], []⟩) Sees.refl rfl rfl
  intro k1 h
  refine sj ?_
  refine rn 1 [(0, eS 1 (eS 1 vt) a0), (1, .fn (.func 152) [] []), (6, eS 1 (eS 1 vt) a0)] [] ?_
  refine jv (vi (a0.length : Int)) (cy (I0 7 (.len 0 (.t 6)))) (ok_len_m rfl) rfl ?_
  refine jq 1 [(0, eS 1 (eS 1 vt) a0), (1, .fn (.func 152) [] []), (7, vi (a0.length : Int)), (8, vi 0)] [] ?_
  refine TriE.block ?_
  refine TriE.sees (S' := ⟨[(0, eS 1 (eS 1 vt) a0), (1, .fn (.func 152) [] []), (7, vi (a0.length : Int)), (8, vi 0)], []⟩) sy ?_
  refine TriE.loopN h (fun (v2 : Nat) => St.mk [(0, eS 1 (eS 1 vt) a0), (1, .fn (.func 152) [] []), (7, vi (a0.length : Int)), (8, vi v2)] []) rfl ?_
  clear h
  rintro back v2 h
  dsimp only [slices_IndexFunc_string_L1] at h
  refine sj ?_
  refine jv (vb (decide (v2 < a0.length))) (cy (I0 9 (.bin .lss false (.t 8) (.t 7)))) (n_lss (i := v2) (j := a0.length) rfl rfl) rfl ?_
  refine jp [(0, eS 1 (eS 1 vt) a0), (1, .fn (.func 152) [] []), (7, vi (a0.length : Int)), (8, vi v2), (9, vb (decide (v2 < a0.length)))] ?_
  refine TriE.seq ?_
  refine TriE.cond (b := decide (v2 < a0.length)) rfl (fun c1 => ?_) (fun c1 => ?_)
  · have h := cond_t h c1
    refine TriE.skip ?_
    refine TriE.seq ?_
    refine TriE.block ?_
    refine sr [(0, eS 1 (eS 1 vt) a0), (1, .fn (.func 152) [] []), (7, vi (a0.length : Int)), (8, vi v2), (5, vi v2)] [] ?_
    refine sj ?_
    refine rn 3 [(0, eS 1 (eS 1 vt) a0), (1, .fn (.func 152) [] []), (7, vi (a0.length : Int)), (8, vi v2), (5, vi v2), (11, .fn (.func 152) [] []), (12, eS 1 (eS 1 vt) a0), (13, vi v2)] [] ?_
    refine jv (.fptr 1 (List.map (eS 1 vt) a0) v2 0) (cy (I0 14 (.iaddr 1 (.t 12) (.t 13)))) (ok_iaddr_m (j := v2) rfl rfl rfl c1) rfl ?_
    refine jv (eS 1 vt (ix a0 v2)) (cy (I0 15 (.load false 1 (.t 14)))) (ok_load_fm (v := eS 1 vt (ix a0 v2)) rfl c1 rfl) rfl ?_
    obtain ⟨y3, hy3, h⟩ := bind_some h
    refine RegJ.op (Op1.dyn (y' := vb (decide (6 < (ix a0 v2).length))) (obx := []) (oby := []) (ob2 := []) _ _ _ (cy (I0 16 (.dyn (.t 11) [(.t 15)]))) rfl rfl (restore_list_checkTask_f1_ok n (ix a0 v2) y3 hy3) [] (by kernel_rfl) (.cons rfl (.cons rfl .nil)) (by kernel_rfl) (by kernel_rfl) ObsRen.nil (by kernel_rfl) ObsRen.nil (by kernel_rfl)) ?_
    refine jp [(0, eS 1 (eS 1 vt) a0), (1, .fn (.func 152) [] []), (7, vi (a0.length : Int)), (8, vi v2), (5, vi v2), (16, vb (decide (6 < (ix a0 v2).length)))] ?_
    refine TriE.cond (b := decide (6 < (ix a0 v2).length)) rfl (fun c2 => ?_) (fun c2 => ?_)
    · have h := cond_t h c2
      refine sr [(4, vi v2)] [] ?_
      refine TriE.ret ?_
      have h := Option.some.inj h
      subst h
      exact DoneS.ret (S' := ⟨[(4, vi v2)], []⟩) Sees.refl rfl rfl
    have h := cond_f h c2
    refine TriE.skip ?_
    refine TriE.regJ ?_
    obtain ⟨c3, h⟩ := chk_some h
    refine jv (vi ((v2 + 1 : Nat) : Int)) (cy (I0 18 (.bin .add false (.t 8) (.c (.p (.int .i64 1)))))) (r_addn (i := v2) (j := 1) rfl rfl c3) rfl ?_
    refine jq 1 [(0, eS 1 (eS 1 vt) a0), (1, .fn (.func 152) [] []), (7, vi (a0.length : Int)), (8, vi ((v2 + 1 : Nat) : Int))] [] ?_
    exact Vs.intro sy ⟨(v2 + 1), rfl, h⟩
  have h := cond_f h c1
  refine TriE.exit ?_
  exact Vs.intro sy ⟨(), rfl, h⟩
theorem slices_ContainsFunc_string_ok (n : Nat) (a0 : List (List Str)) (r : Bool) (h : slices_ContainsFunc_string n a0 = some r) : FnL Tryz.prog 118 [eS 1 (eS 1 vt) a0, .fn (.func 152) [] []] [] (vb r) [] := by
  dsimp only [slices_ContainsFunc_string] at h
  refine FnL.ofS (ts := [4]) Tryz.call118 Tryz.func118 rfl rfl (Nat.le_of_ble_eq_true rfl) (Nat.le_of_ble_eq_true rfl) (fun j h => absurd h (Nat.not_lt_zero j)) ?_
  refine sr [(0, eS 1 (eS 1 vt) a0), (1, .fn (.func 152) [] [])] [] ?_
  refine sj ?_
  refine rn 2 [(5, eS 1 (eS 1 vt) a0), (6, .fn (.func 152) [] [])] [] ?_
  obtain ⟨y1, hy1, h⟩ := bind_some h
  refine RegJ.op (Op1.call (y' := vi y1) (obx := []) (oby := []) (ob2 := []) _ _ (cy (I0 7 (.call 172 [(.t 5), (.t 6)]))) rfl (slices_IndexFunc_string_ok n a0 y1 hy1) [] (by kernel_rfl) (.cons rfl (.cons rfl (.cons rfl .nil))) (by kernel_rfl) (by kernel_rfl) ObsRen.nil (by kernel_rfl) ObsRen.nil (by kernel_rfl)) ?_
  refine jq 2 [(4, vb (decide ((0 : Int) ≤ y1)))] [] ?_
  refine TriE.ret ?_
  have h := Option.some.inj h
  subst h
  exact DoneS.ret (S' := ⟨[(4, vb (decide ((0 : Int) ≤ y1)))], []⟩) Sees.refl rfl rfl
theorem slices_Index_string_ok (n : Nat) (a0 : List Str) (a1 : Str) (r : Int) (h : slices_Index_string n a0 a1 = some r) : FnL Tryz.prog 189 [eS 1 vt a0, vt a1] [] (vi r) [] := by
  dsimp only [slices_Index_string] at h
  refine FnL.ofS (ts := [4]) Tryz.call189 Tryz.func189 rfl rfl (Nat.le_of_ble_eq_true rfl) (Nat.le_of_ble_eq_true rfl) (fun j h => absurd h (Nat.not_lt_zero j)) ?_
  refine sr [(0, eS 1 vt a0), (1, vt a1)] [] ?_
  refine TriE.seqK h (fun (_ : Unit) => St.mk [] []) ?_ ?_
  · rintro ⟨⟩ h
    refine sr [(4, vi (-1))] [] ?_
    refine TriE.ret ?_
    have h := Option.some.inj h
    subst h
    exact DoneS.ret (S' := ⟨[(4, vi (-1))], []⟩) Sees.refl rfl rfl
  intro k1 h
  refine sj ?_
  refine rn 1 [(0, eS 1 vt a0), (1, vt a1), (6, eS 1 vt a0)] [] ?_
  refine jv (vi (a0.length : Int)) (cy (I0 7 (.len 0 (.t 6)))) (ok_len_m rfl) rfl ?_
  refine jq 1 [(0, eS 1 vt a0), (1, vt a1), (7, vi (a0.length : Int)), (8, vi 0)] [] ?_
  refine TriE.block ?_
  refine TriE.sees (S' := ⟨[(0, eS 1 vt a0), (1, vt a1), (7, vi (a0.length : Int)), (8, vi 0)], []⟩) sy ?_
  refine TriE.loopN h (fun (v1 : Nat) => St.mk [(0, eS 1 vt a0), (1, vt a1), (7, vi (a0.length : Int)), (8, vi v1)] []) rfl ?_
  clear h
  rintro back v1 h
  dsimp only [slices_Index_string_L1] at h
  refine sj ?_
  refine jv (vb (decide (v1 < a0.length))) (cy (I0 9 (.bin .lss false (.t 8) (.t 7)))) (n_lss (i := v1) (j := a0.length) rfl rfl) rfl ?_
  refine jp [(0, eS 1 vt a0), (1, vt a1), (7, vi (a0.length : Int)), (8, vi v1), (9, vb (decide (v1 < a0.length)))] ?_
  refine TriE.seq ?_
  refine TriE.cond (b := decide (v1 < a0.length)) rfl (fun c1 => ?_) (fun c1 => ?_)
  · have h := cond_t h c1
    refine TriE.skip ?_
    refine TriE.seq ?_
    refine TriE.block ?_
    refine sr [(0, eS 1 vt a0), (1, vt a1), (7, vi (a0.length : Int)), (8, vi v1), (5, vi v1)] [] ?_
    refine sj ?_
    refine rn 3 [(0, eS 1 vt a0), (1, vt a1), (7, vi (a0.length : Int)), (8, vi v1), (5, vi v1), (11, vt a1), (12, eS 1 vt a0), (13, vi v1)] [] ?_
    refine jv (.fptr 1 (List.map vt a0) v1 0) (cy (I0 14 (.iaddr 1 (.t 12) (.t 13)))) (ok_iaddr_m (j := v1) rfl rfl rfl c1) rfl ?_
    refine jv (vt (ix a0 v1)) (cy (I0 15 (.load false 1 (.t 14)))) (ok_load_fm (v := vt (ix a0 v1)) rfl c1 rfl) rfl ?_
    refine jq 1 [(0, eS 1 vt a0), (1, vt a1), (7, vi (a0.length : Int)), (8, vi v1), (5, vi v1), (16, vb (a1 == (ix a0 v1)))] [] ?_
    refine TriE.cond (b := (a1 == (ix a0 v1))) rfl (fun c2 => ?_) (fun c2 => ?_)
    · have h := cond_t h c2
      refine sr [(4, vi v1)] [] ?_
      refine TriE.ret ?_
      have h := Option.some.inj h
      subst h
      exact DoneS.ret (S' := ⟨[(4, vi v1)], []⟩) Sees.refl rfl rfl
    have h := cond_f h c2
    refine TriE.skip ?_
    refine TriE.regJ ?_
    obtain ⟨c3, h⟩ := chk_some h
    refine jv (vi ((v1 + 1 : Nat) : Int)) (cy (I0 18 (.bin .add false (.t 8) (.c (.p (.int .i64 1)))))) (r_addn (i := v1) (j := 1) rfl rfl c3) rfl ?_
    refine jq 1 [(0, eS 1 vt a0), (1, vt a1), (7, vi (a0.length : Int)), (8, vi ((v1 + 1 : Nat) : Int))] [] ?_
    exact Vs.intro sy ⟨(v1 + 1), rfl, h⟩
  have h := cond_f h c1
  refine TriE.exit ?_
  exact Vs.intro sy ⟨(), rfl, h⟩
theorem slices_Contains_string_ok (n : Nat) (a0 : List Str) (a1 : Str) (r : Bool) (h : slices_Contains_string n a0 a1 = some r) : FnL Tryz.prog 154 [eS 1 vt a0, vt a1] [] (vb r) [] := by
  dsimp only [slices_Contains_string] at h
  refine FnL.ofS (ts := [4]) Tryz.call154 Tryz.func154 rfl rfl (Nat.le_of_ble_eq_true rfl) (Nat.le_of_ble_eq_true rfl) (fun j h => absurd h (Nat.not_lt_zero j)) ?_
  refine sr [(0, eS 1 vt a0), (1, vt a1)] [] ?_
  refine sj ?_
  refine rn 2 [(5, eS 1 vt a0), (6, vt a1)] [] ?_
  obtain ⟨y1, hy1, h⟩ := bind_some h
  refine RegJ.op (Op1.call (y' := vi y1) (obx := []) (oby := []) (ob2 := []) _ _ (cy (I0 7 (.call 189 [(.t 5), (.t 6)]))) rfl (slices_Index_string_ok n a0 a1 y1 hy1) [] (by kernel_rfl) (.cons rfl (.cons rfl (.cons rfl .nil))) (by kernel_rfl) (by kernel_rfl) ObsRen.nil (by kernel_rfl) ObsRen.nil (by kernel_rfl)) ?_
  refine jq 2 [(4, vb (decide ((0 : Int) ≤ y1)))] [] ?_
  refine TriE.ret ?_
  have h := Option.some.inj h
  subst h
  exact DoneS.ret (S' := ⟨[(4, vb (decide ((0 : Int) ≤ y1)))], []⟩) Sees.refl rfl rfl
theorem restore_list_known_ok (n : Nat) (a0 : List Task) (a1 : List Str) (r : Int) (h : restore_list_known n a0 a1 = some r) : FnL Tryz.prog 96 [eS 6 eTask a0, eS 1 vt a1] [] (vi r) [] := by
  dsimp only [restore_list_known] at h
  refine FnL.ofS (ts := [4]) Tryz.call96 Tryz.func96 rfl rfl (Nat.le_of_ble_eq_true rfl) (Nat.le_of_ble_eq_true rfl) (fun j h => absurd h (Nat.not_lt_zero j)) ?_
  refine sr [(0, eS 6 eTask a0), (1, eS 1 vt a1)] [] ?_
  refine TriE.seqK h (fun (_ : Unit) => St.mk [] []) ?_ ?_
  · rintro ⟨⟩ h
    refine sr [(4, vi 0)] [] ?_
    refine TriE.ret ?_
    have h := Option.some.inj h
    subst h
    exact DoneS.ret (S' := ⟨[(4, vi 0)], []⟩) Sees.refl rfl rfl
  intro k1 h
  refine sj ?_
  refine rn 1 [(0, eS 6 eTask a0), (1, eS 1 vt a1), (7, eS 1 vt a1)] [] ?_
  refine jv (vi (a1.length : Int)) (cy (I0 8 (.len 0 (.t 7)))) (ok_len_m rfl) rfl ?_
  refine jq 1 [(0, eS 6 eTask a0), (1, eS 1 vt a1), (7, eS 1 vt a1), (8, vi (a1.length : Int)), (9, vi 0)] [] ?_
  refine TriE.block ?_
  refine TriE.sees (S' := ⟨[(0, eS 6 eTask a0), (1, eS 1 vt a1), (7, eS 1 vt a1), (8, vi (a1.length : Int)), (9, vi 0)], []⟩) sy ?_
  refine TriE.loopN h (fun (v3 : Nat) => St.mk [(0, eS 6 eTask a0), (1, eS 1 vt a1), (7, eS 1 vt a1), (8, vi (a1.length : Int)), (9, vi v3)] []) rfl ?_
  clear h
  rintro back v3 h
  dsimp only [restore_list_known_L1] at h
  refine sj ?_
  refine jv (vb (decide (v3 < a1.length))) (cy (I0 10 (.bin .lss false (.t 9) (.t 8)))) (n_lss (i := v3) (j := a1.length) rfl rfl) rfl ?_
  refine jp [(0, eS 6 eTask a0), (1, eS 1 vt a1), (7, eS 1 vt a1), (8, vi (a1.length : Int)), (9, vi v3), (10, vb (decide (v3 < a1.length)))] ?_
  refine TriE.seq ?_
  refine TriE.cond (b := decide (v3 < a1.length)) rfl (fun c1 => ?_) (fun c1 => ?_)
  · have h := cond_t h c1
    refine TriE.skip ?_
    refine TriE.seq ?_
    refine TriE.block ?_
    refine sj ?_
    refine rn 1 [(0, eS 6 eTask a0), (1, eS 1 vt a1), (7, eS 1 vt a1), (8, vi (a1.length : Int)), (9, vi v3), (11, vi v3)] [] ?_
    refine jv (.fptr 1 (List.map vt a1) v3 0) (cy (I0 12 (.iaddr 1 (.t 7) (.t 9)))) (ok_iaddr_m (j := v3) rfl rfl rfl c1) rfl ?_
    refine jv (vt (ix a1 v3)) (cy (I0 13 (.load false 1 (.t 12)))) (ok_load_fm (v := vt (ix a1 v3)) rfl c1 rfl) rfl ?_
    refine jq 2 [(0, eS 6 eTask a0), (1, eS 1 vt a1), (7, eS 1 vt a1), (8, vi (a1.length : Int)), (9, vi v3), (5, vi v3), (6, vt (ix a1 v3))] [] ?_
    refine TriE.block ?_
    refine sj ?_
    refine rn 2 [(0, eS 6 eTask a0), (1, eS 1 vt a1), (7, eS 1 vt a1), (8, vi (a1.length : Int)), (9, vi v3), (5, vi v3), (6, vt (ix a1 v3)), (15, eS 6 eTask a0), (16, vt (ix a1 v3))] [] ?_
    obtain ⟨y4, hy4, h⟩ := bind_some h
    refine RegJ.op (Op1.call (y' := vi y4) (obx := []) (oby := []) (ob2 := []) _ _ (cy (I0 17 (.call 117 [(.t 15), (.t 16)]))) rfl (restore_list_find_ok n a0 (ix a1 v3) y4 hy4) [] (by kernel_rfl) (.cons rfl (.cons rfl (.cons rfl .nil))) (by kernel_rfl) (by kernel_rfl) ObsRen.nil (by kernel_rfl) ObsRen.nil (by kernel_rfl)) ?_
    refine jq 2 [(0, eS 6 eTask a0), (1, eS 1 vt a1), (7, eS 1 vt a1), (8, vi (a1.length : Int)), (9, vi v3), (5, vi v3), (6, vt (ix a1 v3)), (14, vb (decide (y4 < (0 : Int))))] [] ?_
    refine TriE.cond (b := decide (y4 < (0 : Int))) rfl (fun c2 => ?_) (fun c2 => ?_)
    · have h := cond_t h c2
      refine sr [(4, vi 6)] [] ?_
      refine TriE.ret ?_
      have h := Option.some.inj h
      subst h
      exact DoneS.ret (S' := ⟨[(4, vi 6)], []⟩) Sees.refl rfl rfl
    have h := cond_f h c2
    refine sj ?_
    refine rn 2 [(0, eS 6 eTask a0), (1, eS 1 vt a1), (7, eS 1 vt a1), (8, vi (a1.length : Int)), (9, vi v3), (6, vt (ix a1 v3)), (20, eS 1 vt a1), (21, vi v3)] [] ?_
    obtain ⟨c3, h⟩ := chk_some h
    refine jv (eS 1 vt (List.take v3 a1)) (cy (I0 22 (.slc 1 (.t 20) none (some (.t 21)) none))) (ok_slc_hi (j := v3) rfl rfl rfl c3) rfl ?_
    refine rn 1 [(0, eS 6 eTask a0), (1, eS 1 vt a1), (7, eS 1 vt a1), (8, vi (a1.length : Int)), (9, vi v3), (22, eS 1 vt (List.take v3 a1)), (23, vt (ix a1 v3))] [] ?_
    obtain ⟨y5, hy5, h⟩ := bind_some h
    refine RegJ.op (Op1.call (y' := vb y5) (obx := []) (oby := []) (ob2 := []) _ _ (cy (I0 24 (.call 154 [(.t 22), (.t 23)]))) rfl (slices_Contains_string_ok n (List.take v3 a1) (ix a1 v3) y5 hy5) [] (by kernel_rfl) (.cons rfl (.cons rfl (.cons rfl .nil))) (by kernel_rfl) (by kernel_rfl) ObsRen.nil (by kernel_rfl) ObsRen.nil (by kernel_rfl)) ?_
    refine jq 1 [(0, eS 6 eTask a0), (1, eS 1 vt a1), (7, eS 1 vt a1), (8, vi (a1.length : Int)), (9, vi v3), (19, vb y5)] [] ?_
    refine TriE.cond (b := y5) rfl (fun c4 => ?_) (fun c4 => ?_)
    · have h := cond_t h c4
      refine sr [(4, vi 5)] [] ?_
      refine TriE.ret ?_
      have h := Option.some.inj h
      subst h
      exact DoneS.ret (S' := ⟨[(4, vi 5)], []⟩) Sees.refl rfl rfl
    have h := cond_f h c4
    refine TriE.skip ?_
    refine TriE.regJ ?_
    obtain ⟨c5, h⟩ := chk_some h
    refine jv (vi ((v3 + 1 : Nat) : Int)) (cy (I0 25 (.bin .add false (.t 9) (.c (.p (.int .i64 1)))))) (r_addn (i := v3) (j := 1) rfl rfl c5) rfl ?_
    refine jq 1 [(0, eS 6 eTask a0), (1, eS 1 vt a1), (7, eS 1 vt a1), (8, vi (a1.length : Int)), (9, vi ((v3 + 1 : Nat) : Int))] [] ?_
    exact Vs.intro sy ⟨(v3 + 1), rfl, h⟩
  have h := cond_f h c1
  refine TriE.exit ?_
  exact Vs.intro sy ⟨(), rfl, h⟩
theorem restore_checkCounts_f1_ok (n : Nat) (a0 : PartCount) (a1 : Str) (a2 : Int) (r : Unit) (h : restore_checkCounts_f1 n a0 a1 a2 = some r) : FnL Tryz.prog 168 [.agg [vt a0.Part, vi a0.Count], .ptr 0 0 0] [some (.row 2 [.agg [vt a1, vi a2]])] (vb (a0.Part == a1)) [some (.row 2 [.agg [vt a1, vi a2]])] := by
  dsimp only [restore_checkCounts_f1] at h
  refine FnL.ofS (ts := [3]) Tryz.call168 Tryz.func168 rfl rfl (Nat.le_of_ble_eq_true rfl) (Nat.le_of_ble_eq_true rfl) (hall_of (.cons rfl .nil)) ?_
  refine sr [(1, .ptr 0 0 0), (2, .ptr 1 0 0)] [some (.row 2 [.agg [vt a1, vi a2]]), some (.row 2 [.agg [vt a0.Part, vi a0.Count]])] ?_
  refine sr [(3, vb (a0.Part == a1))] [some (.row 2 [.agg [vt a1, vi a2]]), some (.row 2 [.agg [vt a0.Part, vi a0.Count]])] ?_
  refine TriE.ret ?_
  have h := Option.some.inj h
  subst h
  exact DoneS.ret (S' := ⟨[(3, vb (a0.Part == a1))], [some (.row 2 [.agg [vt a1, vi a2]])]⟩) (sc [0] (by decide) (by kernel_rfl) (.cons rfl .nil) rfl rfl) rfl rfl
theorem slices_IndexFunc_PartCount_ok (n : Nat) (a0 : List PartCount) (a1 : Str) (a2 : Int) (r : Int) (h : slices_IndexFunc_PartCount n a0 a1 a2 = some r) : FnL Tryz.prog 201 [eS 2 ePartCount a0, .fn (.func 168) [] [.ptr 0 0 0]] [some (.row 2 [.agg [vt a1, vi a2]])] (vi r) [some (.row 2 [.agg [vt a1, vi a2]])] := by
  dsimp only [slices_IndexFunc_PartCount] at h
  refine FnL.ofS (ts := [4]) Tryz.call201 Tryz.func201 rfl rfl (Nat.le_of_ble_eq_true rfl) (Nat.le_of_ble_eq_true rfl) (hall_of (.cons rfl .nil)) ?_
  refine sr [(0, eS 2 ePartCount a0), (1, .fn (.func 168) [] [.ptr 0 0 0])] [some (.row 2 [.agg [vt a1, vi a2]])] ?_
  refine TriE.seqK h (fun (_ : Unit) => St.mk [] [some (.row 2 [.agg [vt a1, vi a2]])]) ?_ ?_
  · rintro ⟨⟩ h
    refine sr [(4, vi (-1))] [some (.row 2 [.agg [vt a1, vi a2]])] ?_
    refine TriE.ret ?_
    have h := Option.some.inj h
    subst h
    exact DoneS.ret (S' := ⟨[(4, vi (-1))], [some (.row 2 [.agg [vt a1, vi a2]])]⟩) Sees.refl rfl rfl
  intro k1 h
  refine sj ?_
  refine rn 1 [(0, eS 2 ePartCount a0), (1, .fn (.func 168) [] [.ptr 0 0 0]), (6, eS 2 ePartCount a0)] [some (.row 2 [.agg [vt a1, vi a2]])] ?_
  refine jv (vi (a0.length : Int)) (cy (I0 7 (.len 0 (.t 6)))) (ok_len_m rfl) rfl ?_
  refine jq 1 [(0, eS 2 ePartCount a0), (1, .fn (.func 168) [] [.ptr 0 0 0]), (7, vi (a0.length : Int)), (8, vi 0)] [some (.row 2 [.agg [vt a1, vi a2]])] ?_
  refine TriE.block ?_
  refine TriE.sees (S' := ⟨[(0, eS 2 ePartCount a0), (1, .fn (.func 168) [] [.ptr 0 0 0]), (7, vi (a0.length : Int)), (8, vi 0)], [some (.row 2 [.agg [vt a1, vi a2]])]⟩) sy ?_
  refine TriE.loopN h (fun (v2 : Nat) => St.mk [(0, eS 2 ePartCount a0), (1, .fn (.func 168) [] [.ptr 0 0 0]), (7, vi (a0.length : Int)), (8, vi v2)] [some (.row 2 [.agg [vt a1, vi a2]])]) rfl ?_
  clear h
  rintro back v2 h
  dsimp only [slices_IndexFunc_PartCount_L1] at h
  refine sj ?_
  refine jv (vb (decide (v2 < a0.length))) (cy (I0 9 (.bin .lss false (.t 8) (.t 7)))) (n_lss (i := v2) (j := a0.length) rfl rfl) rfl ?_
  refine jp [(0, eS 2 ePartCount a0), (1, .fn (.func 168) [] [.ptr 0 0 0]), (7, vi (a0.length : Int)), (8, vi v2), (9, vb (decide (v2 < a0.length)))] ?_
  refine TriE.seq ?_
  refine TriE.cond (b := decide (v2 < a0.length)) rfl (fun c1 => ?_) (fun c1 => ?_)
  · have h := cond_t h c1
    refine TriE.skip ?_
    refine TriE.seq ?_
    refine TriE.block ?_
    refine sr [(0, eS 2 ePartCount a0), (1, .fn (.func 168) [] [.ptr 0 0 0]), (7, vi (a0.length : Int)), (8, vi v2), (5, vi v2)] [some (.row 2 [.agg [vt a1, vi a2]])] ?_
    refine sj ?_
    refine rn 3 [(0, eS 2 ePartCount a0), (1, .fn (.func 168) [] [.ptr 0 0 0]), (7, vi (a0.length : Int)), (8, vi v2), (5, vi v2), (11, .fn (.func 168) [] [.ptr 0 0 0]), (12, eS 2 ePartCount a0), (13, vi v2)] [some (.row 2 [.agg [vt a1, vi a2]])] ?_
    refine jv (.fptr 2 (List.map ePartCount a0) v2 0) (cy (I0 14 (.iaddr 2 (.t 12) (.t 13)))) (ok_iaddr_m (j := v2) rfl rfl rfl c1) rfl ?_
    refine jv (.agg [vt ((ix a0 v2).Part), vi ((ix a0 v2).Count)]) (cy (I0 15 (.load true 2 (.t 14)))) (ok_load_fm (v := .agg [vt ((ix a0 v2).Part), vi ((ix a0 v2).Count)]) rfl c1 rfl) rfl ?_
    obtain ⟨y3, hy3, h⟩ := bind_some h
    refine RegJ.op (Op1.dyn (y' := vb ((ix a0 v2).Part == a1)) (obx := [some (.row 2 [.agg [vt a1, vi a2]])]) (oby := [some (.row 2 [.agg [vt a1, vi a2]])]) (ob2 := [some (.row 2 [.agg [vt a1, vi a2]])]) _ _ _ (cy (I0 16 (.dyn (.t 11) [(.t 15)]))) rfl rfl (restore_checkCounts_f1_ok n (ix a0 v2) a1 a2 y3 hy3) [0] (by kernel_rfl) (.cons rfl (.cons rfl .nil)) (by kernel_rfl) (by kernel_rfl) (.cons rfl .nil) (by kernel_rfl) (.cons rfl .nil) (by kernel_rfl)) ?_
    refine jp [(0, eS 2 ePartCount a0), (1, .fn (.func 168) [] [.ptr 0 0 0]), (7, vi (a0.length : Int)), (8, vi v2), (5, vi v2), (16, vb ((ix a0 v2).Part == a1))] ?_
    refine TriE.cond (b := ((ix a0 v2).Part == a1)) rfl (fun c2 => ?_) (fun c2 => ?_)
    · have h := cond_t h c2
      refine sr [(4, vi v2)] [some (.row 2 [.agg [vt a1, vi a2]])] ?_
      refine TriE.ret ?_
      have h := Option.some.inj h
      subst h
      exact DoneS.ret (S' := ⟨[(4, vi v2)], [some (.row 2 [.agg [vt a1, vi a2]])]⟩) Sees.refl rfl rfl
    have h := cond_f h c2
    refine TriE.skip ?_
    refine TriE.regJ ?_
    obtain ⟨c3, h⟩ := chk_some h
    refine jv (vi ((v2 + 1 : Nat) : Int)) (cy (I0 18 (.bin .add false (.t 8) (.c (.p (.int .i64 1)))))) (r_addn (i := v2) (j := 1) rfl rfl c3) rfl ?_
    refine jq 1 [(0, eS 2 ePartCount a0), (1, .fn (.func 168) [] [.ptr 0 0 0]), (7, vi (a0.length : Int)), (8, vi ((v2 + 1 : Nat) : Int))] [some (.row 2 [.agg [vt a1, vi a2]])] ?_
    exact Vs.intro sy ⟨(v2 + 1), rfl, h⟩
  have h := cond_f h c1
  refine TriE.exit ?_
  exact Vs.intro sy ⟨(), rfl, h⟩
theorem slices_ContainsFunc_PartCount_ok (n : Nat) (a0 : List PartCount) (a1 : Str) (a2 : Int) (r : Bool) (h : slices_ContainsFunc_PartCount n a0 a1 a2 = some r) : FnL Tryz.prog 167 [eS 2 ePartCount a0, .fn (.func 168) [] [.ptr 0 0 0]] [some (.row 2 [.agg [vt a1, vi a2]])] (vb r) [some (.row 2 [.agg [vt a1, vi a2]])] := by
  dsimp only [slices_ContainsFunc_PartCount] at h
  refine FnL.ofS (ts := [4]) Tryz.call167 Tryz.func167 rfl rfl (Nat.le_of_ble_eq_true rfl) (Nat.le_of_ble_eq_true rfl) (hall_of (.cons rfl .nil)) ?_
  refine sr [(0, eS 2 ePartCount a0), (1, .fn (.func 168) [] [.ptr 0 0 0])] [some (.row 2 [.agg [vt a1, vi a2]])] ?_
  refine sj ?_
  refine rn 2 [(5, eS 2 ePartCount a0), (6, .fn (.func 168) [] [.ptr 0 0 0])] [some (.row 2 [.agg [vt a1, vi a2]])] ?_
  obtain ⟨y1, hy1, h⟩ := bind_some h
  refine RegJ.op (Op1.call (y' := vi y1) (obx := [some (.row 2 [.agg [vt a1, vi a2]])]) (oby := [some (.row 2 [.agg [vt a1, vi a2]])]) (ob2 := [some (.row 2 [.agg [vt a1, vi a2]])]) _ _ (cy (I0 7 (.call 201 [(.t 5), (.t 6)]))) rfl (slices_IndexFunc_PartCount_ok n a0 a1 a2 y1 hy1) [0] (by kernel_rfl) (.cons rfl (.cons rfl (.cons rfl .nil))) (by kernel_rfl) (by kernel_rfl) (.cons rfl .nil) (by kernel_rfl) (.cons rfl .nil) (by kernel_rfl)) ?_
  refine jq 2 [(4, vb (decide ((0 : Int) ≤ y1)))] [some (.row 2 [.agg [vt a1, vi a2]])] ?_
  refine TriE.ret ?_
  have h := Option.some.inj h
  subst h
  exact DoneS.ret (S' := ⟨[(4, vb (decide ((0 : Int) ≤ y1)))], [some (.row 2 [.agg [vt a1, vi a2]])]⟩) Sees.refl rfl rfl
theorem restore_checkCounts_ok (n : Nat) (a0 : List PartCount) (a1 : Int) (r : Int) (h : restore_checkCounts n a0 a1 = some r) : FnL Tryz.prog 108 [eS 2 ePartCount a0, vi a1] [] (vi r) [] := by
  dsimp only [restore_checkCounts] at h
  refine FnL.ofS (ts := [4]) Tryz.call108 Tryz.func108 rfl rfl (Nat.le_of_ble_eq_true rfl) (Nat.le_of_ble_eq_true rfl) (fun j h => absurd h (Nat.not_lt_zero j)) ?_
  refine sr [(0, eS 2 ePartCount a0), (1, vi a1)] [] ?_
  refine TriE.seqK h (fun (_ : Unit) => St.mk [] []) ?_ ?_
  · rintro ⟨⟩ h
    refine sr [(4, vi 0)] [] ?_
    refine TriE.ret ?_
    have h := Option.some.inj h
    subst h
    exact DoneS.ret (S' := ⟨[(4, vi 0)], []⟩) Sees.refl rfl rfl
  intro k1 h
  refine sj ?_
  refine rn 1 [(0, eS 2 ePartCount a0), (1, vi a1), (7, eS 2 ePartCount a0)] [] ?_
  refine jv (vi (a0.length : Int)) (cy (I0 8 (.len 0 (.t 7)))) (ok_len_m rfl) rfl ?_
  refine jq 1 [(0, eS 2 ePartCount a0), (1, vi a1), (7, eS 2 ePartCount a0), (8, vi (a0.length : Int)), (9, vi 0)] [] ?_
  refine TriE.block ?_
  refine TriE.sees (S' := ⟨[(0, eS 2 ePartCount a0), (1, vi a1), (7, eS 2 ePartCount a0), (8, vi (a0.length : Int)), (9, vi 0)], []⟩) sy ?_
  refine TriE.loopN h (fun (v4 : Nat) => St.mk [(0, eS 2 ePartCount a0), (1, vi a1), (7, eS 2 ePartCount a0), (8, vi (a0.length : Int)), (9, vi v4)] []) rfl ?_
  clear h
  rintro back v4 h
  dsimp only [restore_checkCounts_L1] at h
  refine sj ?_
  refine jv (vb (decide (v4 < a0.length))) (cy (I0 10 (.bin .lss false (.t 9) (.t 8)))) (n_lss (i := v4) (j := a0.length) rfl rfl) rfl ?_
  refine jp [(0, eS 2 ePartCount a0), (1, vi a1), (7, eS 2 ePartCount a0), (8, vi (a0.length : Int)), (9, vi v4), (10, vb (decide (v4 < a0.length)))] ?_
  refine TriE.seq ?_
  refine TriE.cond (b := decide (v4 < a0.length)) rfl (fun c1 => ?_) (fun c1 => ?_)
  · have h := cond_t h c1
    refine TriE.skip ?_
    refine TriE.seq ?_
    refine TriE.block ?_
    refine sj ?_
    refine rn 1 [(0, eS 2 ePartCount a0), (1, vi a1), (7, eS 2 ePartCount a0), (8, vi (a0.length : Int)), (9, vi v4), (11, vi v4)] [] ?_
    refine jv (.fptr 2 (List.map ePartCount a0) v4 0) (cy (I0 12 (.iaddr 2 (.t 7) (.t 9)))) (ok_iaddr_m (j := v4) rfl rfl rfl c1) rfl ?_
    refine jv (.agg [vt ((ix a0 v4).Part), vi ((ix a0 v4).Count)]) (cy (I0 13 (.load true 2 (.t 12)))) (ok_load_fm (v := .agg [vt ((ix a0 v4).Part), vi ((ix a0 v4).Count)]) rfl c1 rfl) rfl ?_
    refine jq 3 [(0, eS 2 ePartCount a0), (1, vi a1), (7, eS 2 ePartCount a0), (8, vi (a0.length : Int)), (9, vi v4), (6, .ptr 0 0 0), (5, vi v4)] [some (.row 2 [.agg [vt ((ix a0 v4).Part), vi ((ix a0 v4).Count)]])] ?_
    refine TriE.block ?_
    refine sj ?_
    refine rn 2 [(0, eS 2 ePartCount a0), (1, vi a1), (7, eS 2 ePartCount a0), (8, vi (a0.length : Int)), (9, vi v4), (6, .ptr 0 0 0), (5, vi v4), (16, vt ((ix a0 v4).Part))] [some (.row 2 [.agg [vt ((ix a0 v4).Part), vi ((ix a0 v4).Count)]])] ?_
    obtain ⟨y5, hy5, h⟩ := bind_some h
    refine RegJ.op (Op1.call (y' := vb y5) (obx := []) (oby := []) (ob2 := [some (.row 2 [.agg [vt ((ix a0 v4).Part), vi ((ix a0 v4).Count)]])]) _ _ (cy (I0 17 (.call 89 [(.t 16)]))) rfl (restore_isName_ok n ((ix a0 v4).Part) y5 hy5) [] (by kernel_rfl) (.cons rfl (.cons rfl .nil)) (by kernel_rfl) (by kernel_rfl) ObsRen.nil (by kernel_rfl) ObsRen.nil (by kernel_rfl)) ?_
    refine jq 2 [(0, eS 2 ePartCount a0), (1, vi a1), (7, eS 2 ePartCount a0), (8, vi (a0.length : Int)), (9, vi v4), (6, .ptr 0 0 0), (5, vi v4), (14, vb (!y5))] [some (.row 2 [.agg [vt ((ix a0 v4).Part), vi ((ix a0 v4).Count)]])] ?_
    refine TriE.cond (b := !y5) rfl (fun c2 => ?_) (fun c2 => ?_)
    · have h := cond_t h c2
      refine sr [(4, vi 4)] [some (.row 2 [.agg [vt ((ix a0 v4).Part), vi ((ix a0 v4).Count)]])] ?_
      refine TriE.ret ?_
      have h := Option.some.inj h
      subst h
      exact DoneS.ret (S' := ⟨[(4, vi 4)], []⟩) (sc [] (by decide) (by kernel_rfl) ObRen.nil rfl rfl) rfl rfl
    have h := cond_f h c2
    refine sj ?_
    refine rn 2 [(0, eS 2 ePartCount a0), (1, vi a1), (7, eS 2 ePartCount a0), (8, vi (a0.length : Int)), (9, vi v4), (6, .ptr 0 0 0), (20, eS 2 ePartCount a0), (21, vi v4)] [some (.row 2 [.agg [vt ((ix a0 v4).Part), vi ((ix a0 v4).Count)]])] ?_
    obtain ⟨c3, h⟩ := chk_some h
    refine jv (eS 2 ePartCount (List.take v4 a0)) (cy (I0 22 (.slc 2 (.t 20) none (some (.t 21)) none))) (ok_slc_hi (j := v4) rfl rfl rfl c3) rfl ?_
    refine rn 1 [(0, eS 2 ePartCount a0), (1, vi a1), (7, eS 2 ePartCount a0), (8, vi (a0.length : Int)), (9, vi v4), (6, .ptr 0 0 0), (22, eS 2 ePartCount (List.take v4 a0)), (23, .fn (.func 168) [] [.ptr 0 0 0])] [some (.row 2 [.agg [vt ((ix a0 v4).Part), vi ((ix a0 v4).Count)]])] ?_
    obtain ⟨y6, hy6, h⟩ := bind_some h
    refine RegJ.op (Op1.call (y' := vb y6) (obx := [some (.row 2 [.agg [vt ((ix a0 v4).Part), vi ((ix a0 v4).Count)]])]) (oby := [some (.row 2 [.agg [vt ((ix a0 v4).Part), vi ((ix a0 v4).Count)]])]) (ob2 := [some (.row 2 [.agg [vt ((ix a0 v4).Part), vi ((ix a0 v4).Count)]])]) _ _ (cy (I0 24 (.call 167 [(.t 22), (.t 23)]))) rfl (slices_ContainsFunc_PartCount_ok n (List.take v4 a0) ((ix a0 v4).Part) ((ix a0 v4).Count) y6 hy6) [0] (by kernel_rfl) (.cons rfl (.cons rfl (.cons rfl .nil))) (by kernel_rfl) (by kernel_rfl) (.cons rfl .nil) (by kernel_rfl) (.cons rfl .nil) (by kernel_rfl)) ?_
    refine jq 1 [(0, eS 2 ePartCount a0), (1, vi a1), (7, eS 2 ePartCount a0), (8, vi (a0.length : Int)), (9, vi v4), (6, .ptr 0 0 0), (19, vb y6)] [some (.row 2 [.agg [vt ((ix a0 v4).Part), vi ((ix a0 v4).Count)]])] ?_
    refine TriE.cond (b := y6) rfl (fun c4 => ?_) (fun c4 => ?_)
    · have h := cond_t h c4
      refine sr [(4, vi 5)] [some (.row 2 [.agg [vt ((ix a0 v4).Part), vi ((ix a0 v4).Count)]])] ?_
      refine TriE.ret ?_
      have h := Option.some.inj h
      subst h
      exact DoneS.ret (S' := ⟨[(4, vi 5)], []⟩) (sc [] (by decide) (by kernel_rfl) ObRen.nil rfl rfl) rfl rfl
    have h := cond_f h c4
    refine sj ?_
    refine rn 3 [(0, eS 2 ePartCount a0), (1, vi a1), (7, eS 2 ePartCount a0), (8, vi (a0.length : Int)), (9, vi v4), (27, vi ((ix a0 v4).Count)), (28, vi a1)] [some (.row 2 [.agg [vt ((ix a0 v4).Part), vi ((ix a0 v4).Count)]])] ?_
    obtain ⟨y7, hy7, h⟩ := bind_some h
    refine RegJ.op (Op1.call (y' := vb ((decide (1 ≤ ((ix a0 v4).Count))) && (decide (((ix a0 v4).Count) ≤ a1)))) (obx := []) (oby := []) (ob2 := [some (.row 2 [.agg [vt ((ix a0 v4).Part), vi ((ix a0 v4).Count)]])]) _ _ (cy (I0 29 (.call 91 [(.t 27), (.c (.p (.int .i64 1))), (.t 28)]))) rfl (restore_within_ok n ((ix a0 v4).Count) 1 a1 y7 hy7) [] (by kernel_rfl) (.cons rfl (.cons rfl (.cons rfl (.cons rfl .nil)))) (by kernel_rfl) (by kernel_rfl) ObsRen.nil (by kernel_rfl) ObsRen.nil (by kernel_rfl)) ?_
    refine jq 2 [(0, eS 2 ePartCount a0), (1, vi a1), (7, eS 2 ePartCount a0), (8, vi (a0.length : Int)), (9, vi v4), (25, vb (!((decide (1 ≤ ((ix a0 v4).Count))) && (decide (((ix a0 v4).Count) ≤ a1)))))] [some (.row 2 [.agg [vt ((ix a0 v4).Part), vi ((ix a0 v4).Count)]])] ?_
    refine TriE.cond (b := !((decide (1 ≤ ((ix a0 v4).Count))) && (decide (((ix a0 v4).Count) ≤ a1)))) rfl (fun c5 => ?_) (fun c5 => ?_)
    · have h := cond_t h c5
      refine sr [(4, vi 2)] [some (.row 2 [.agg [vt ((ix a0 v4).Part), vi ((ix a0 v4).Count)]])] ?_
      refine TriE.ret ?_
      have h := Option.some.inj h
      subst h
      exact DoneS.ret (S' := ⟨[(4, vi 2)], []⟩) (sc [] (by decide) (by kernel_rfl) ObRen.nil rfl rfl) rfl rfl
    have h := cond_f h c5
    refine TriE.skip ?_
    refine TriE.regJ ?_
    obtain ⟨c6, h⟩ := chk_some h
    refine jv (vi ((v4 + 1 : Nat) : Int)) (cy (I0 31 (.bin .add false (.t 9) (.c (.p (.int .i64 1)))))) (r_addn (i := v4) (j := 1) rfl rfl c6) rfl ?_
    refine jq 1 [(0, eS 2 ePartCount a0), (1, vi a1), (7, eS 2 ePartCount a0), (8, vi (a0.length : Int)), (9, vi ((v4 + 1 : Nat) : Int))] [some (.row 2 [.agg [vt ((ix a0 v4).Part), vi ((ix a0 v4).Count)]])] ?_
    exact Vs.intro (sc [] (by decide) (by kernel_rfl) ObRen.nil rfl rfl) ⟨(v4 + 1), rfl, h⟩
  have h := cond_f h c1
  refine TriE.exit ?_
  exact Vs.intro sy ⟨(), rfl, h⟩
theorem restore_list_checkTask_ok (n : Nat) (a0 : List Task) (a1 : Int) (r : Int) (h : restore_list_checkTask n a0 a1 = some r) : FnL Tryz.prog 85 [eS 6 eTask a0, vi a1] [] (vi r) [] := by
  dsimp only [restore_list_checkTask] at h
  refine FnL.ofS (ts := [4]) Tryz.call85 Tryz.func85 rfl rfl (Nat.le_of_ble_eq_true rfl) (Nat.le_of_ble_eq_true rfl) (fun j h => absurd h (Nat.not_lt_zero j)) ?_
  refine sr [(0, eS 6 eTask a0), (1, vi a1)] [] ?_
  refine sj ?_
  refine rn 2 [(0, eS 6 eTask a0), (1, vi a1), (11, eS 6 eTask a0), (12, vi a1)] [] ?_
  obtain ⟨c1, h⟩ := chk_some h
  refine jv (.fptr 6 (List.map eTask a0) a1.toNat 0) (cy (I0 13 (.iaddr 6 (.t 11) (.t 12)))) (ok_iaddr_m (j := a1.toNat) rfl rfl (inB_to c1) (inB_lt c1)) rfl ?_
  obtain ⟨c2, h⟩ := chk_some h
  refine jv (.agg [vt ((ix a0 a1.toNat).Name), vi ((ix a0 a1.toNat).Cents), vi ((ix a0 a1.toNat).Hours), eS 1 vt ((ix a0 a1.toNat).Needs), eS 1 (eS 1 vt) ((ix a0 a1.toNat).OneOf), eS 2 ePartCount ((ix a0 a1.toNat).Parts)]) (cy (I0 14 (.load true 6 (.t 13)))) (ok_load_fm (v := .agg [vt ((ix a0 a1.toNat).Name), vi ((ix a0 a1.toNat).Cents), vi ((ix a0 a1.toNat).Hours), eS 1 vt ((ix a0 a1.toNat).Needs), eS 1 (eS 1 vt) ((ix a0 a1.toNat).OneOf), eS 2 ePartCount ((ix a0 a1.toNat).Parts)]) rfl c2 rfl) rfl ?_
  refine jq 2 [(0, eS 6 eTask a0), (1, vi a1), (5, .ptr 0 0 0)] [some (.row 6 [.agg [vt ((ix a0 a1.toNat).Name), vi ((ix a0 a1.toNat).Cents), vi ((ix a0 a1.toNat).Hours), eS 1 vt ((ix a0 a1.toNat).Needs), eS 1 (eS 1 vt) ((ix a0 a1.toNat).OneOf), eS 2 ePartCount ((ix a0 a1.toNat).Parts)]])] ?_
  refine sr [(0, eS 6 eTask a0), (1, vi a1), (5, .ptr 0 0 0), (6, .fn (.func 152) [] [])] [some (.row 6 [.agg [vt ((ix a0 a1.toNat).Name), vi ((ix a0 a1.toNat).Cents), vi ((ix a0 a1.toNat).Hours), eS 1 vt ((ix a0 a1.toNat).Needs), eS 1 (eS 1 vt) ((ix a0 a1.toNat).OneOf), eS 2 ePartCount ((ix a0 a1.toNat).Parts)]])] ?_
  refine TriE.seq ?_
  refine TriE.block ?_
  refine sj ?_
  refine rn 2 [(0, eS 6 eTask a0), (1, vi a1), (5, .ptr 0 0 0), (6, .fn (.func 152) [] []), (17, vt ((ix a0 a1.toNat).Name))] [some (.row 6 [.agg [vt ((ix a0 a1.toNat).Name), vi ((ix a0 a1.toNat).Cents), vi ((ix a0 a1.toNat).Hours), eS 1 vt ((ix a0 a1.toNat).Needs), eS 1 (eS 1 vt) ((ix a0 a1.toNat).OneOf), eS 2 ePartCount ((ix a0 a1.toNat).Parts)]])] ?_
  obtain ⟨y1, hy1, h⟩ := bind_some h
  refine RegJ.op (Op1.call (y' := vb y1) (obx := []) (oby := []) (ob2 := [some (.row 6 [.agg [vt ((ix a0 a1.toNat).Name), vi ((ix a0 a1.toNat).Cents), vi ((ix a0 a1.toNat).Hours), eS 1 vt ((ix a0 a1.toNat).Needs), eS 1 (eS 1 vt) ((ix a0 a1.toNat).OneOf), eS 2 ePartCount ((ix a0 a1.toNat).Parts)]])]) _ _ (cy (I0 18 (.call 89 [(.t 17)]))) rfl (restore_isName_ok n ((ix a0 a1.toNat).Name) y1 hy1) [] (by kernel_rfl) (.cons rfl (.cons rfl .nil)) (by kernel_rfl) (by kernel_rfl) ObsRen.nil (by kernel_rfl) ObsRen.nil (by kernel_rfl)) ?_
  refine jq 2 [(0, eS 6 eTask a0), (1, vi a1), (5, .ptr 0 0 0), (6, .fn (.func 152) [] []), (15, vb (!y1))] [some (.row 6 [.agg [vt ((ix a0 a1.toNat).Name), vi ((ix a0 a1.toNat).Cents), vi ((ix a0 a1.toNat).Hours), eS 1 vt ((ix a0 a1.toNat).Needs), eS 1 (eS 1 vt) ((ix a0 a1.toNat).OneOf), eS 2 ePartCount ((ix a0 a1.toNat).Parts)]])] ?_
  refine TriE.cond (b := !y1) rfl (fun c3 => ?_) (fun c3 => ?_)
  · have h := cond_t h c3
    refine sr [(4, vi 4)] [some (.row 6 [.agg [vt ((ix a0 a1.toNat).Name), vi ((ix a0 a1.toNat).Cents), vi ((ix a0 a1.toNat).Hours), eS 1 vt ((ix a0 a1.toNat).Needs), eS 1 (eS 1 vt) ((ix a0 a1.toNat).OneOf), eS 2 ePartCount ((ix a0 a1.toNat).Parts)]])] ?_
    refine TriE.ret ?_
    have h := Option.some.inj h
    subst h
    exact DoneS.ret (S' := ⟨[(4, vi 4)], []⟩) (sc [] (by decide) (by kernel_rfl) ObRen.nil rfl rfl) rfl rfl
  have h := cond_f h c3
  refine sj ?_
  refine rn 3 [(0, eS 6 eTask a0), (1, vi a1), (5, .ptr 0 0 0), (6, .fn (.func 152) [] []), (21, eS 6 eTask a0), (23, vt ((ix a0 a1.toNat).Name))] [some (.row 6 [.agg [vt ((ix a0 a1.toNat).Name), vi ((ix a0 a1.toNat).Cents), vi ((ix a0 a1.toNat).Hours), eS 1 vt ((ix a0 a1.toNat).Needs), eS 1 (eS 1 vt) ((ix a0 a1.toNat).OneOf), eS 2 ePartCount ((ix a0 a1.toNat).Parts)]])] ?_
  obtain ⟨y2, hy2, h⟩ := bind_some h
  refine RegJ.op (Op1.call (y' := vi y2) (obx := []) (oby := []) (ob2 := [some (.row 6 [.agg [vt ((ix a0 a1.toNat).Name), vi ((ix a0 a1.toNat).Cents), vi ((ix a0 a1.toNat).Hours), eS 1 vt ((ix a0 a1.toNat).Needs), eS 1 (eS 1 vt) ((ix a0 a1.toNat).OneOf), eS 2 ePartCount ((ix a0 a1.toNat).Parts)]])]) _ _ (cy (I0 24 (.call 117 [(.t 21), (.t 23)]))) rfl (restore_list_find_ok n a0 ((ix a0 a1.toNat).Name) y2 hy2) [] (by kernel_rfl) (.cons rfl (.cons rfl (.cons rfl .nil))) (by kernel_rfl) (by kernel_rfl) ObsRen.nil (by kernel_rfl) ObsRen.nil (by kernel_rfl)) ?_
  refine jq 3 [(0, eS 6 eTask a0), (5, .ptr 0 0 0), (6, .fn (.func 152) [] []), (20, vb (decide (y2 < a1)))] [some (.row 6 [.agg [vt ((ix a0 a1.toNat).Name), vi ((ix a0 a1.toNat).Cents), vi ((ix a0 a1.toNat).Hours), eS 1 vt ((ix a0 a1.toNat).Needs), eS 1 (eS 1 vt) ((ix a0 a1.toNat).OneOf), eS 2 ePartCount ((ix a0 a1.toNat).Parts)]])] ?_
  refine TriE.cond (b := decide (y2 < a1)) rfl (fun c4 => ?_) (fun c4 => ?_)
  · have h := cond_t h c4
    refine sr [(4, vi 5)] [some (.row 6 [.agg [vt ((ix a0 a1.toNat).Name), vi ((ix a0 a1.toNat).Cents), vi ((ix a0 a1.toNat).Hours), eS 1 vt ((ix a0 a1.toNat).Needs), eS 1 (eS 1 vt) ((ix a0 a1.toNat).OneOf), eS 2 ePartCount ((ix a0 a1.toNat).Parts)]])] ?_
    refine TriE.ret ?_
    have h := Option.some.inj h
    subst h
    exact DoneS.ret (S' := ⟨[(4, vi 5)], []⟩) (sc [] (by decide) (by kernel_rfl) ObRen.nil rfl rfl) rfl rfl
  have h := cond_f h c4
  refine sj ?_
  refine rn 2 [(0, eS 6 eTask a0), (5, .ptr 0 0 0), (6, .fn (.func 152) [] []), (29, vi ((ix a0 a1.toNat).Cents))] [some (.row 6 [.agg [vt ((ix a0 a1.toNat).Name), vi ((ix a0 a1.toNat).Cents), vi ((ix a0 a1.toNat).Hours), eS 1 vt ((ix a0 a1.toNat).Needs), eS 1 (eS 1 vt) ((ix a0 a1.toNat).OneOf), eS 2 ePartCount ((ix a0 a1.toNat).Parts)]])] ?_
  obtain ⟨y3, hy3, h⟩ := bind_some h
  refine RegJ.op (Op1.call (y' := vb ((decide (0 ≤ ((ix a0 a1.toNat).Cents))) && (decide (((ix a0 a1.toNat).Cents) ≤ 1000000000)))) (obx := []) (oby := []) (ob2 := [some (.row 6 [.agg [vt ((ix a0 a1.toNat).Name), vi ((ix a0 a1.toNat).Cents), vi ((ix a0 a1.toNat).Hours), eS 1 vt ((ix a0 a1.toNat).Needs), eS 1 (eS 1 vt) ((ix a0 a1.toNat).OneOf), eS 2 ePartCount ((ix a0 a1.toNat).Parts)]])]) _ _ (cy (I0 30 (.call 91 [(.t 29), (.c (.p (.int .i64 0))), (.c (.p (.int .i64 1000000000)))]))) rfl (restore_within_ok n ((ix a0 a1.toNat).Cents) 0 1000000000 y3 hy3) [] (by kernel_rfl) (.cons rfl (.cons rfl (.cons rfl (.cons rfl .nil)))) (by kernel_rfl) (by kernel_rfl) ObsRen.nil (by kernel_rfl) ObsRen.nil (by kernel_rfl)) ?_
  refine rn 2 [(0, eS 6 eTask a0), (5, .ptr 0 0 0), (6, .fn (.func 152) [] []), (32, vb (!((decide (0 ≤ ((ix a0 a1.toNat).Cents))) && (decide (((ix a0 a1.toNat).Cents) ≤ 1000000000)))))] [some (.row 6 [.agg [vt ((ix a0 a1.toNat).Name), vi ((ix a0 a1.toNat).Cents), vi ((ix a0 a1.toNat).Hours), eS 1 vt ((ix a0 a1.toNat).Needs), eS 1 (eS 1 vt) ((ix a0 a1.toNat).OneOf), eS 2 ePartCount ((ix a0 a1.toNat).Parts)]])] ?_
  refine RegJ.op (Op1.valk (v := .ptr 0 0 2) _ _ (cy (IG 33 (.faddr 2 (.t 5)) 32 false)) rfl (by kernel_rfl) (fun hg => (.cons rfl .nil))) ?_
  refine RegJ.op (Op1.valk (v := vi ((ix a0 a1.toNat).Hours)) _ _ (cy (IG 34 (.load false 1 (.t 33)) 32 false)) rfl (by kernel_rfl) (fun hg => (.cons hg .nil))) ?_
  obtain ⟨y4, hy4, h⟩ := bind_some h
  refine RegJ.op (Op1.callg (g := !(!((decide (0 ≤ ((ix a0 a1.toNat).Cents))) && (decide (((ix a0 a1.toNat).Cents) ≤ 1000000000))))) (y' := vb ((decide (0 ≤ ((ix a0 a1.toNat).Hours))) && (decide (((ix a0 a1.toNat).Hours) ≤ 10000)))) (obx := []) _ _ (cy (IG 35 (.call 91 [(.t 34), (.c (.p (.int .i64 0))), (.c (.p (.int .i64 10000)))]) 32 false)) rfl (fun hg => restore_within_ok n ((ix a0 a1.toNat).Hours) 0 10000 y4 (gcall_some hy4 hg)) [] (fun hg => by kernel_rfl) (fun hg => (.cons rfl (.cons hg (.cons rfl (.cons rfl .nil))))) (by kernel_rfl) (by kernel_rfl) ObsRen.nil (by kernel_rfl) (by kernel_rfl)) ?_
  refine RegJ.op (Op1.valk (v := vb (!((decide (0 ≤ ((ix a0 a1.toNat).Hours))) && (decide (((ix a0 a1.toNat).Hours) ≤ 10000))))) _ _ (cy (IG 36 (.un .not (.t 35)) 32 false)) rfl (by kernel_rfl) (fun hg => (.cons hg .nil))) ?_
  refine RegJ.op (Op1.or (cy (I0 37 (.pick (.t 32) (.c (.p (.bool true))) (.t 36)))) rfl rfl (by first | exact hokO1 | exact hokO0 | simp)) ?_
  refine jq 1 [(0, eS 6 eTask a0), (5, .ptr 0 0 0), (6, .fn (.func 152) [] []), (27, vb ((!((decide (0 ≤ ((ix a0 a1.toNat).Cents))) && (decide (((ix a0 a1.toNat).Cents) ≤ 1000000000)))) || (!((decide (0 ≤ ((ix a0 a1.toNat).Hours))) && (decide (((ix a0 a1.toNat).Hours) ≤ 10000))))))] [some (.row 6 [.agg [vt ((ix a0 a1.toNat).Name), vi ((ix a0 a1.toNat).Cents), vi ((ix a0 a1.toNat).Hours), eS 1 vt ((ix a0 a1.toNat).Needs), eS 1 (eS 1 vt) ((ix a0 a1.toNat).OneOf), eS 2 ePartCount ((ix a0 a1.toNat).Parts)]])] ?_
  refine TriE.cond (b := (!((decide (0 ≤ ((ix a0 a1.toNat).Cents))) && (decide (((ix a0 a1.toNat).Cents) ≤ 1000000000)))) || (!((decide (0 ≤ ((ix a0 a1.toNat).Hours))) && (decide (((ix a0 a1.toNat).Hours) ≤ 10000))))) rfl (fun c5 => ?_) (fun c5 => ?_)
  · have h := cond_t h c5
    refine sr [(4, vi 2)] [some (.row 6 [.agg [vt ((ix a0 a1.toNat).Name), vi ((ix a0 a1.toNat).Cents), vi ((ix a0 a1.toNat).Hours), eS 1 vt ((ix a0 a1.toNat).Needs), eS 1 (eS 1 vt) ((ix a0 a1.toNat).OneOf), eS 2 ePartCount ((ix a0 a1.toNat).Parts)]])] ?_
    refine TriE.ret ?_
    have h := Option.some.inj h
    subst h
    exact DoneS.ret (S' := ⟨[(4, vi 2)], []⟩) (sc [] (by decide) (by kernel_rfl) ObRen.nil rfl rfl) rfl rfl
  have h := cond_f h c5
  refine sj ?_
  refine rn 2 [(0, eS 6 eTask a0), (5, .ptr 0 0 0), (6, .fn (.func 152) [] []), (40, eS 1 vt ((ix a0 a1.toNat).Needs))] [some (.row 6 [.agg [vt ((ix a0 a1.toNat).Name), vi ((ix a0 a1.toNat).Cents), vi ((ix a0 a1.toNat).Hours), eS 1 vt ((ix a0 a1.toNat).Needs), eS 1 (eS 1 vt) ((ix a0 a1.toNat).OneOf), eS 2 ePartCount ((ix a0 a1.toNat).Parts)]])] ?_
  refine jv (vi ((((ix a0 a1.toNat).Needs).length : Nat) : Int)) (cy (I0 41 (.len 0 (.t 40)))) (ok_len_m rfl) rfl ?_
  refine jv (vb (decide (10 < (((ix a0 a1.toNat).Needs).length)))) (cy (I0 42 (.bin .gtr false (.t 41) (.c (.p (.int .i64 10)))))) (n_gtr (i := ((ix a0 a1.toNat).Needs).length) (j := 10) rfl rfl) rfl ?_
  refine rn 1 [(0, eS 6 eTask a0), (5, .ptr 0 0 0), (6, .fn (.func 152) [] []), (43, vb (decide (10 < (((ix a0 a1.toNat).Needs).length))))] [some (.row 6 [.agg [vt ((ix a0 a1.toNat).Name), vi ((ix a0 a1.toNat).Cents), vi ((ix a0 a1.toNat).Hours), eS 1 vt ((ix a0 a1.toNat).Needs), eS 1 (eS 1 vt) ((ix a0 a1.toNat).OneOf), eS 2 ePartCount ((ix a0 a1.toNat).Parts)]])] ?_
  refine RegJ.op (Op1.valk (v := .ptr 0 0 4) _ _ (cy (IG 44 (.faddr 4 (.t 5)) 43 false)) rfl (by kernel_rfl) (fun hg => (.cons rfl .nil))) ?_
  refine RegJ.op (Op1.valk (v := eS 1 (eS 1 vt) ((ix a0 a1.toNat).OneOf)) _ _ (cy (IG 45 (.load false 1 (.t 44)) 43 false)) rfl (by kernel_rfl) (fun hg => (.cons hg .nil))) ?_
  refine RegJ.op (Op1.valg (v := vi ((((ix a0 a1.toNat).OneOf).length : Nat) : Int)) _ _ (cy (IG 46 (.len 0 (.t 45)) 43 false)) rfl (fun hg => (ok_len_m rfl)) (fun hg => (.cons hg .nil))) ?_
  refine RegJ.op (Op1.valg (v := vb (decide (6 < (((ix a0 a1.toNat).OneOf).length)))) _ _ (cy (IG 47 (.bin .gtr false (.t 46) (.c (.p (.int .i64 6)))) 43 false)) rfl (fun hg => (n_gtr (i := ((ix a0 a1.toNat).OneOf).length) (j := 6) rfl rfl)) (fun hg => (.cons hg (.cons rfl .nil)))) ?_
  refine RegJ.op (Op1.or (cy (I0 48 (.pick (.t 43) (.c (.p (.bool true))) (.t 47)))) rfl rfl (by first | exact hokO1 | exact hokO0 | simp)) ?_
  refine rn 1 [(0, eS 6 eTask a0), (5, .ptr 0 0 0), (6, .fn (.func 152) [] []), (49, vb ((decide (10 < (((ix a0 a1.toNat).Needs).length))) || (decide (6 < (((ix a0 a1.toNat).OneOf).length)))))] [some (.row 6 [.agg [vt ((ix a0 a1.toNat).Name), vi ((ix a0 a1.toNat).Cents), vi ((ix a0 a1.toNat).Hours), eS 1 vt ((ix a0 a1.toNat).Needs), eS 1 (eS 1 vt) ((ix a0 a1.toNat).OneOf), eS 2 ePartCount ((ix a0 a1.toNat).Parts)]])] ?_
  refine RegJ.op (Op1.valk (v := .ptr 0 0 4) _ _ (cy (IG 50 (.faddr 4 (.t 5)) 49 false)) rfl (by kernel_rfl) (fun hg => (.cons rfl .nil))) ?_
  refine RegJ.op (Op1.valk (v := eS 1 (eS 1 vt) ((ix a0 a1.toNat).OneOf)) _ _ (cy (IG 51 (.load false 1 (.t 50)) 49 false)) rfl (by kernel_rfl) (fun hg => (.cons hg .nil))) ?_
  refine RegJ.op (Op1.valk (v := .fn (.func 152) [] []) _ _ (cy (IG 52 (.mov (.t 6)) 49 false)) rfl (by kernel_rfl) (fun hg => (.cons rfl .nil))) ?_
  obtain ⟨y5, hy5, h⟩ := bind_some h
  refine RegJ.op (Op1.callg (g := !((decide (10 < (((ix a0 a1.toNat).Needs).length))) || (decide (6 < (((ix a0 a1.toNat).OneOf).length))))) (y' := vb y5) (obx := []) _ _ (cy (IG 53 (.call 118 [(.t 51), (.t 52)]) 49 false)) rfl (fun hg => slices_ContainsFunc_string_ok n ((ix a0 a1.toNat).OneOf) y5 (gcall_some hy5 hg)) [] (fun hg => by kernel_rfl) (fun hg => (.cons rfl (.cons hg (.cons hg .nil)))) (by kernel_rfl) (by kernel_rfl) ObsRen.nil (by kernel_rfl) (by kernel_rfl)) ?_
  refine RegJ.op (Op1.or (cy (I0 54 (.pick (.t 49) (.c (.p (.bool true))) (.t 53)))) rfl rfl (by first | exact hokO1 | exact hokO0 | simp)) ?_
  refine rn 1 [(0, eS 6 eTask a0), (5, .ptr 0 0 0), (55, vb (((decide (10 < (((ix a0 a1.toNat).Needs).length))) || (decide (6 < (((ix a0 a1.toNat).OneOf).length)))) || y5))] [some (.row 6 [.agg [vt ((ix a0 a1.toNat).Name), vi ((ix a0 a1.toNat).Cents), vi ((ix a0 a1.toNat).Hours), eS 1 vt ((ix a0 a1.toNat).Needs), eS 1 (eS 1 vt) ((ix a0 a1.toNat).OneOf), eS 2 ePartCount ((ix a0 a1.toNat).Parts)]])] ?_
  refine RegJ.op (Op1.valk (v := .ptr 0 0 5) _ _ (cy (IG 56 (.faddr 5 (.t 5)) 55 false)) rfl (by kernel_rfl) (fun hg => (.cons rfl .nil))) ?_
  refine RegJ.op (Op1.valk (v := eS 2 ePartCount ((ix a0 a1.toNat).Parts)) _ _ (cy (IG 57 (.load false 1 (.t 56)) 55 false)) rfl (by kernel_rfl) (fun hg => (.cons hg .nil))) ?_
  refine RegJ.op (Op1.valg (v := vi ((((ix a0 a1.toNat).Parts).length : Nat) : Int)) _ _ (cy (IG 58 (.len 0 (.t 57)) 55 false)) rfl (fun hg => (ok_len_m rfl)) (fun hg => (.cons hg .nil))) ?_
  refine RegJ.op (Op1.valg (v := vb (decide (10 < (((ix a0 a1.toNat).Parts).length)))) _ _ (cy (IG 59 (.bin .gtr false (.t 58) (.c (.p (.int .i64 10)))) 55 false)) rfl (fun hg => (n_gtr (i := ((ix a0 a1.toNat).Parts).length) (j := 10) rfl rfl)) (fun hg => (.cons hg (.cons rfl .nil)))) ?_
  refine RegJ.op (Op1.or (cy (I0 60 (.pick (.t 55) (.c (.p (.bool true))) (.t 59)))) rfl rfl (by first | exact hokO1 | exact hokO0 | simp)) ?_
  refine jq 1 [(0, eS 6 eTask a0), (5, .ptr 0 0 0), (38, vb ((((decide (10 < (((ix a0 a1.toNat).Needs).length))) || (decide (6 < (((ix a0 a1.toNat).OneOf).length)))) || y5) || (decide (10 < (((ix a0 a1.toNat).Parts).length)))))] [some (.row 6 [.agg [vt ((ix a0 a1.toNat).Name), vi ((ix a0 a1.toNat).Cents), vi ((ix a0 a1.toNat).Hours), eS 1 vt ((ix a0 a1.toNat).Needs), eS 1 (eS 1 vt) ((ix a0 a1.toNat).OneOf), eS 2 ePartCount ((ix a0 a1.toNat).Parts)]])] ?_
  refine TriE.cond (b := (((decide (10 < (((ix a0 a1.toNat).Needs).length))) || (decide (6 < (((ix a0 a1.toNat).OneOf).length)))) || y5) || (decide (10 < (((ix a0 a1.toNat).Parts).length)))) rfl (fun c6 => ?_) (fun c6 => ?_)
  · have h := cond_t h c6
    refine sr [(4, vi 8)] [some (.row 6 [.agg [vt ((ix a0 a1.toNat).Name), vi ((ix a0 a1.toNat).Cents), vi ((ix a0 a1.toNat).Hours), eS 1 vt ((ix a0 a1.toNat).Needs), eS 1 (eS 1 vt) ((ix a0 a1.toNat).OneOf), eS 2 ePartCount ((ix a0 a1.toNat).Parts)]])] ?_
    refine TriE.ret ?_
    have h := Option.some.inj h
    subst h
    exact DoneS.ret (S' := ⟨[(4, vi 8)], []⟩) (sc [] (by decide) (by kernel_rfl) ObRen.nil rfl rfl) rfl rfl
  have h := cond_f h c6
  refine TriE.skip ?_
  refine TriE.seq ?_
  refine sj ?_
  refine rn 3 [(0, eS 6 eTask a0), (5, .ptr 0 0 0), (61, eS 6 eTask a0), (63, eS 1 vt ((ix a0 a1.toNat).Needs))] [some (.row 6 [.agg [vt ((ix a0 a1.toNat).Name), vi ((ix a0 a1.toNat).Cents), vi ((ix a0 a1.toNat).Hours), eS 1 vt ((ix a0 a1.toNat).Needs), eS 1 (eS 1 vt) ((ix a0 a1.toNat).OneOf), eS 2 ePartCount ((ix a0 a1.toNat).Parts)]])] ?_
  obtain ⟨y6, hy6, h⟩ := bind_some h
  refine RegJ.op (Op1.call (y' := vi y6) (obx := []) (oby := []) (ob2 := [some (.row 6 [.agg [vt ((ix a0 a1.toNat).Name), vi ((ix a0 a1.toNat).Cents), vi ((ix a0 a1.toNat).Hours), eS 1 vt ((ix a0 a1.toNat).Needs), eS 1 (eS 1 vt) ((ix a0 a1.toNat).OneOf), eS 2 ePartCount ((ix a0 a1.toNat).Parts)]])]) _ _ (cy (I0 64 (.call 96 [(.t 61), (.t 63)]))) rfl (restore_list_known_ok n a0 ((ix a0 a1.toNat).Needs) y6 hy6) [] (by kernel_rfl) (.cons rfl (.cons rfl (.cons rfl .nil))) (by kernel_rfl) (by kernel_rfl) ObsRen.nil (by kernel_rfl) ObsRen.nil (by kernel_rfl)) ?_
  refine jq 1 [(0, eS 6 eTask a0), (5, .ptr 0 0 0), (7, vi y6)] [some (.row 6 [.agg [vt ((ix a0 a1.toNat).Name), vi ((ix a0 a1.toNat).Cents), vi ((ix a0 a1.toNat).Hours), eS 1 vt ((ix a0 a1.toNat).Needs), eS 1 (eS 1 vt) ((ix a0 a1.toNat).OneOf), eS 2 ePartCount ((ix a0 a1.toNat).Parts)]])] ?_
  refine sr [(0, eS 6 eTask a0), (5, .ptr 0 0 0), (7, vi y6), (66, vb (y6 != (0 : Int)))] [some (.row 6 [.agg [vt ((ix a0 a1.toNat).Name), vi ((ix a0 a1.toNat).Cents), vi ((ix a0 a1.toNat).Hours), eS 1 vt ((ix a0 a1.toNat).Needs), eS 1 (eS 1 vt) ((ix a0 a1.toNat).OneOf), eS 2 ePartCount ((ix a0 a1.toNat).Parts)]])] ?_
  refine TriE.cond (b := (y6 != (0 : Int))) rfl (fun c7 => ?_) (fun c7 => ?_)
  · have h := cond_t h c7
    refine sr [(4, vi y6)] [some (.row 6 [.agg [vt ((ix a0 a1.toNat).Name), vi ((ix a0 a1.toNat).Cents), vi ((ix a0 a1.toNat).Hours), eS 1 vt ((ix a0 a1.toNat).Needs), eS 1 (eS 1 vt) ((ix a0 a1.toNat).OneOf), eS 2 ePartCount ((ix a0 a1.toNat).Parts)]])] ?_
    refine TriE.ret ?_
    have h := Option.some.inj h
    subst h
    exact DoneS.ret (S' := ⟨[(4, vi y6)], []⟩) (sc [] (by decide) (by kernel_rfl) ObRen.nil rfl rfl) rfl rfl
  have h := cond_f h c7
  refine TriE.skip ?_
  refine TriE.seqK h (fun (_ : Unit) => St.mk [(5, .ptr 0 0 0)] [some (.row 6 [.agg [vt ((ix a0 a1.toNat).Name), vi ((ix a0 a1.toNat).Cents), vi ((ix a0 a1.toNat).Hours), eS 1 vt ((ix a0 a1.toNat).Needs), eS 1 (eS 1 vt) ((ix a0 a1.toNat).OneOf), eS 2 ePartCount ((ix a0 a1.toNat).Parts)]])]) ?_ ?_
  · rintro ⟨⟩ h
    refine sj ?_
    refine rn 2 [(86, eS 2 ePartCount ((ix a0 a1.toNat).Parts))] [some (.row 6 [.agg [vt ((ix a0 a1.toNat).Name), vi ((ix a0 a1.toNat).Cents), vi ((ix a0 a1.toNat).Hours), eS 1 vt ((ix a0 a1.toNat).Needs), eS 1 (eS 1 vt) ((ix a0 a1.toNat).OneOf), eS 2 ePartCount ((ix a0 a1.toNat).Parts)]])] ?_
    obtain ⟨y10, hy10, h⟩ := bind_some h
    refine RegJ.op (Op1.call (y' := vi y10) (obx := []) (oby := []) (ob2 := [some (.row 6 [.agg [vt ((ix a0 a1.toNat).Name), vi ((ix a0 a1.toNat).Cents), vi ((ix a0 a1.toNat).Hours), eS 1 vt ((ix a0 a1.toNat).Needs), eS 1 (eS 1 vt) ((ix a0 a1.toNat).OneOf), eS 2 ePartCount ((ix a0 a1.toNat).Parts)]])]) _ _ (cy (I0 87 (.call 108 [(.t 86), (.c (.p (.int .i64 1000)))]))) rfl (restore_checkCounts_ok n ((ix a0 a1.toNat).Parts) 1000 y10 hy10) [] (by kernel_rfl) (.cons rfl (.cons rfl (.cons rfl .nil))) (by kernel_rfl) (by kernel_rfl) ObsRen.nil (by kernel_rfl) ObsRen.nil (by kernel_rfl)) ?_
    refine jq 1 [(4, vi y10)] [some (.row 6 [.agg [vt ((ix a0 a1.toNat).Name), vi ((ix a0 a1.toNat).Cents), vi ((ix a0 a1.toNat).Hours), eS 1 vt ((ix a0 a1.toNat).Needs), eS 1 (eS 1 vt) ((ix a0 a1.toNat).OneOf), eS 2 ePartCount ((ix a0 a1.toNat).Parts)]])] ?_
    refine TriE.ret ?_
    have h := Option.some.inj h
    subst h
    exact DoneS.ret (S' := ⟨[(4, vi y10)], []⟩) (sc [] (by decide) (by kernel_rfl) ObRen.nil rfl rfl) rfl rfl
  intro k1 h
  refine sj ?_
  refine rn 2 [(0, eS 6 eTask a0), (5, .ptr 0 0 0), (69, eS 1 (eS 1 vt) ((ix a0 a1.toNat).OneOf))] [some (.row 6 [.agg [vt ((ix a0 a1.toNat).Name), vi ((ix a0 a1.toNat).Cents), vi ((ix a0 a1.toNat).Hours), eS 1 vt ((ix a0 a1.toNat).Needs), eS 1 (eS 1 vt) ((ix a0 a1.toNat).OneOf), eS 2 ePartCount ((ix a0 a1.toNat).Parts)]])] ?_
  refine jv (vi ((((ix a0 a1.toNat).OneOf).length : Nat) : Int)) (cy (I0 70 (.len 0 (.t 69)))) (ok_len_m rfl) rfl ?_
  refine jq 1 [(0, eS 6 eTask a0), (5, .ptr 0 0 0), (69, eS 1 (eS 1 vt) ((ix a0 a1.toNat).OneOf)), (70, vi ((((ix a0 a1.toNat).OneOf).length : Nat) : Int)), (71, vi 0)] [some (.row 6 [.agg [vt ((ix a0 a1.toNat).Name), vi ((ix a0 a1.toNat).Cents), vi ((ix a0 a1.toNat).Hours), eS 1 vt ((ix a0 a1.toNat).Needs), eS 1 (eS 1 vt) ((ix a0 a1.toNat).OneOf), eS 2 ePartCount ((ix a0 a1.toNat).Parts)]])] ?_
  refine TriE.block ?_
  refine TriE.sees (S' := ⟨[(0, eS 6 eTask a0), (5, .ptr 0 0 0), (69, eS 1 (eS 1 vt) ((ix a0 a1.toNat).OneOf)), (70, vi ((((ix a0 a1.toNat).OneOf).length : Nat) : Int)), (71, vi 0)], [some (.row 6 [.agg [vt ((ix a0 a1.toNat).Name), vi ((ix a0 a1.toNat).Cents), vi ((ix a0 a1.toNat).Hours), eS 1 vt ((ix a0 a1.toNat).Needs), eS 1 (eS 1 vt) ((ix a0 a1.toNat).OneOf), eS 2 ePartCount ((ix a0 a1.toNat).Parts)]])]⟩) sy ?_
  refine TriE.loopN h (fun (v8 : Nat) => St.mk [(0, eS 6 eTask a0), (5, .ptr 0 0 0), (69, eS 1 (eS 1 vt) ((ix a0 a1.toNat).OneOf)), (70, vi ((((ix a0 a1.toNat).OneOf).length : Nat) : Int)), (71, vi v8)] [some (.row 6 [.agg [vt ((ix a0 a1.toNat).Name), vi ((ix a0 a1.toNat).Cents), vi ((ix a0 a1.toNat).Hours), eS 1 vt ((ix a0 a1.toNat).Needs), eS 1 (eS 1 vt) ((ix a0 a1.toNat).OneOf), eS 2 ePartCount ((ix a0 a1.toNat).Parts)]])]) rfl ?_
  clear h
  rintro back v8 h
  dsimp only [restore_list_checkTask_L1] at h
  refine sj ?_
  refine jv (vb (decide (v8 < (((ix a0 a1.toNat).OneOf).length)))) (cy (I0 72 (.bin .lss false (.t 71) (.t 70)))) (n_lss (i := v8) (j := ((ix a0 a1.toNat).OneOf).length) rfl rfl) rfl ?_
  refine jp [(0, eS 6 eTask a0), (5, .ptr 0 0 0), (69, eS 1 (eS 1 vt) ((ix a0 a1.toNat).OneOf)), (70, vi ((((ix a0 a1.toNat).OneOf).length : Nat) : Int)), (71, vi v8), (72, vb (decide (v8 < (((ix a0 a1.toNat).OneOf).length))))] ?_
  refine TriE.seq ?_
  refine TriE.cond (b := decide (v8 < (((ix a0 a1.toNat).OneOf).length))) rfl (fun c8 => ?_) (fun c8 => ?_)
  · have h := cond_t h c8
    refine TriE.skip ?_
    refine TriE.seq ?_
    refine TriE.block ?_
    refine sj ?_
    obtain ⟨c9, h⟩ := chk_some h
    refine jv (.fptr 1 (List.map (eS 1 vt) ((ix a0 a1.toNat).OneOf)) v8 0) (cy (I0 73 (.iaddr 1 (.t 69) (.t 71)))) (ok_iaddr_m (j := v8) rfl rfl rfl c9) rfl ?_
    refine jv (eS 1 vt (ix ((ix a0 a1.toNat).OneOf) v8)) (cy (I0 74 (.load false 1 (.t 73)))) (ok_load_fm (v := eS 1 vt (ix ((ix a0 a1.toNat).OneOf) v8)) rfl c9 rfl) rfl ?_
    refine jq 1 [(0, eS 6 eTask a0), (5, .ptr 0 0 0), (69, eS 1 (eS 1 vt) ((ix a0 a1.toNat).OneOf)), (70, vi ((((ix a0 a1.toNat).OneOf).length : Nat) : Int)), (71, vi v8), (9, eS 1 vt (ix ((ix a0 a1.toNat).OneOf) v8))] [some (.row 6 [.agg [vt ((ix a0 a1.toNat).Name), vi ((ix a0 a1.toNat).Cents), vi ((ix a0 a1.toNat).Hours), eS 1 vt ((ix a0 a1.toNat).Needs), eS 1 (eS 1 vt) ((ix a0 a1.toNat).OneOf), eS 2 ePartCount ((ix a0 a1.toNat).Parts)]])] ?_
    refine TriE.seq ?_
    refine sj ?_
    refine rn 1 [(0, eS 6 eTask a0), (5, .ptr 0 0 0), (69, eS 1 (eS 1 vt) ((ix a0 a1.toNat).OneOf)), (70, vi ((((ix a0 a1.toNat).OneOf).length : Nat) : Int)), (71, vi v8), (9, eS 1 vt (ix ((ix a0 a1.toNat).OneOf) v8)), (75, eS 1 vt (ix ((ix a0 a1.toNat).OneOf) v8))] [some (.row 6 [.agg [vt ((ix a0 a1.toNat).Name), vi ((ix a0 a1.toNat).Cents), vi ((ix a0 a1.toNat).Hours), eS 1 vt ((ix a0 a1.toNat).Needs), eS 1 (eS 1 vt) ((ix a0 a1.toNat).OneOf), eS 2 ePartCount ((ix a0 a1.toNat).Parts)]])] ?_
    refine jv (vi (((ix ((ix a0 a1.toNat).OneOf) v8).length : Nat) : Int)) (cy (I0 76 (.len 0 (.t 75)))) (ok_len_m rfl) rfl ?_
    refine jv (vb (decide (((ix ((ix a0 a1.toNat).OneOf) v8).length) = 0))) (cy (I0 77 (.bin .eql false (.t 76) (.c (.p (.int .i64 0)))))) (n_eql (i := (ix ((ix a0 a1.toNat).OneOf) v8).length) (j := 0) rfl rfl) rfl ?_
    refine jp [(0, eS 6 eTask a0), (5, .ptr 0 0 0), (69, eS 1 (eS 1 vt) ((ix a0 a1.toNat).OneOf)), (70, vi ((((ix a0 a1.toNat).OneOf).length : Nat) : Int)), (71, vi v8), (9, eS 1 vt (ix ((ix a0 a1.toNat).OneOf) v8)), (77, vb (decide (((ix ((ix a0 a1.toNat).OneOf) v8).length) = 0)))] ?_
    refine TriE.cond (b := decide (((ix ((ix a0 a1.toNat).OneOf) v8).length) = 0)) rfl (fun c10 => ?_) (fun c10 => ?_)
    · have h := cond_t h c10
      refine sr [(4, vi 10)] [some (.row 6 [.agg [vt ((ix a0 a1.toNat).Name), vi ((ix a0 a1.toNat).Cents), vi ((ix a0 a1.toNat).Hours), eS 1 vt ((ix a0 a1.toNat).Needs), eS 1 (eS 1 vt) ((ix a0 a1.toNat).OneOf), eS 2 ePartCount ((ix a0 a1.toNat).Parts)]])] ?_
      refine TriE.ret ?_
      have h := Option.some.inj h
      subst h
      exact DoneS.ret (S' := ⟨[(4, vi 10)], []⟩) (sc [] (by decide) (by kernel_rfl) ObRen.nil rfl rfl) rfl rfl
    have h := cond_f h c10
    refine TriE.skip ?_
    refine sj ?_
    refine rn 2 [(0, eS 6 eTask a0), (5, .ptr 0 0 0), (69, eS 1 (eS 1 vt) ((ix a0 a1.toNat).OneOf)), (70, vi ((((ix a0 a1.toNat).OneOf).length : Nat) : Int)), (71, vi v8), (78, eS 6 eTask a0), (79, eS 1 vt (ix ((ix a0 a1.toNat).OneOf) v8))] [some (.row 6 [.agg [vt ((ix a0 a1.toNat).Name), vi ((ix a0 a1.toNat).Cents), vi ((ix a0 a1.toNat).Hours), eS 1 vt ((ix a0 a1.toNat).Needs), eS 1 (eS 1 vt) ((ix a0 a1.toNat).OneOf), eS 2 ePartCount ((ix a0 a1.toNat).Parts)]])] ?_
    obtain ⟨y9, hy9, h⟩ := bind_some h
    refine RegJ.op (Op1.call (y' := vi y9) (obx := []) (oby := []) (ob2 := [some (.row 6 [.agg [vt ((ix a0 a1.toNat).Name), vi ((ix a0 a1.toNat).Cents), vi ((ix a0 a1.toNat).Hours), eS 1 vt ((ix a0 a1.toNat).Needs), eS 1 (eS 1 vt) ((ix a0 a1.toNat).OneOf), eS 2 ePartCount ((ix a0 a1.toNat).Parts)]])]) _ _ (cy (I0 80 (.call 96 [(.t 78), (.t 79)]))) rfl (restore_list_known_ok n a0 (ix ((ix a0 a1.toNat).OneOf) v8) y9 hy9) [] (by kernel_rfl) (.cons rfl (.cons rfl (.cons rfl .nil))) (by kernel_rfl) (by kernel_rfl) ObsRen.nil (by kernel_rfl) ObsRen.nil (by kernel_rfl)) ?_
    refine jq 1 [(0, eS 6 eTask a0), (5, .ptr 0 0 0), (69, eS 1 (eS 1 vt) ((ix a0 a1.toNat).OneOf)), (70, vi ((((ix a0 a1.toNat).OneOf).length : Nat) : Int)), (71, vi v8), (10, vi y9)] [some (.row 6 [.agg [vt ((ix a0 a1.toNat).Name), vi ((ix a0 a1.toNat).Cents), vi ((ix a0 a1.toNat).Hours), eS 1 vt ((ix a0 a1.toNat).Needs), eS 1 (eS 1 vt) ((ix a0 a1.toNat).OneOf), eS 2 ePartCount ((ix a0 a1.toNat).Parts)]])] ?_
    refine sr [(0, eS 6 eTask a0), (5, .ptr 0 0 0), (69, eS 1 (eS 1 vt) ((ix a0 a1.toNat).OneOf)), (70, vi ((((ix a0 a1.toNat).OneOf).length : Nat) : Int)), (71, vi v8), (10, vi y9), (82, vb (y9 != (0 : Int)))] [some (.row 6 [.agg [vt ((ix a0 a1.toNat).Name), vi ((ix a0 a1.toNat).Cents), vi ((ix a0 a1.toNat).Hours), eS 1 vt ((ix a0 a1.toNat).Needs), eS 1 (eS 1 vt) ((ix a0 a1.toNat).OneOf), eS 2 ePartCount ((ix a0 a1.toNat).Parts)]])] ?_
    refine TriE.cond (b := (y9 != (0 : Int))) rfl (fun c11 => ?_) (fun c11 => ?_)
    · have h := cond_t h c11
      refine sr [(4, vi y9)] [some (.row 6 [.agg [vt ((ix a0 a1.toNat).Name), vi ((ix a0 a1.toNat).Cents), vi ((ix a0 a1.toNat).Hours), eS 1 vt ((ix a0 a1.toNat).Needs), eS 1 (eS 1 vt) ((ix a0 a1.toNat).OneOf), eS 2 ePartCount ((ix a0 a1.toNat).Parts)]])] ?_
      refine TriE.ret ?_
      have h := Option.some.inj h
      subst h
      exact DoneS.ret (S' := ⟨[(4, vi y9)], []⟩) (sc [] (by decide) (by kernel_rfl) ObRen.nil rfl rfl) rfl rfl
    have h := cond_f h c11
    refine TriE.skip ?_
    refine TriE.regJ ?_
    obtain ⟨c12, h⟩ := chk_some h
    refine jv (vi ((v8 + 1 : Nat) : Int)) (cy (I0 84 (.bin .add false (.t 71) (.c (.p (.int .i64 1)))))) (r_addn (i := v8) (j := 1) rfl rfl c12) rfl ?_
    refine jq 1 [(0, eS 6 eTask a0), (5, .ptr 0 0 0), (69, eS 1 (eS 1 vt) ((ix a0 a1.toNat).OneOf)), (70, vi ((((ix a0 a1.toNat).OneOf).length : Nat) : Int)), (71, vi ((v8 + 1 : Nat) : Int))] [some (.row 6 [.agg [vt ((ix a0 a1.toNat).Name), vi ((ix a0 a1.toNat).Cents), vi ((ix a0 a1.toNat).Hours), eS 1 vt ((ix a0 a1.toNat).Needs), eS 1 (eS 1 vt) ((ix a0 a1.toNat).OneOf), eS 2 ePartCount ((ix a0 a1.toNat).Parts)]])] ?_
    exact Vs.intro sy ⟨(v8 + 1), rfl, h⟩
  have h := cond_f h c8
  refine TriE.exit ?_
  exact Vs.intro sy ⟨(), rfl, h⟩
theorem restore_CheckTasks_f1_ok (n : Nat) (a0 : Str) (r : Unit) (h : restore_CheckTasks_f1 n a0 = some r) : FnL Tryz.prog 87 [vt a0] [] (vb true) [] := by
  dsimp only [restore_CheckTasks_f1] at h
  refine FnL.ofS (ts := [2]) Tryz.call87 Tryz.func87 rfl rfl (Nat.le_of_ble_eq_true rfl) (Nat.le_of_ble_eq_true rfl) (fun j h => absurd h (Nat.not_lt_zero j)) ?_
  refine sr [] [] ?_
  refine sr [(2, vb true)] [] ?_
  refine TriE.ret ?_
  have h := Option.some.inj h
  subst h
  exact DoneS.ret (S' := ⟨[(2, vb true)], []⟩) Sees.refl rfl rfl
theorem slices_Grow_string_ok (n : Nat) (a0 : Int) (r : (List Str)) (h : slices_Grow_string n a0 = some r) : FnL Tryz.prog 216 [.emp, vi a0] [] (.own 0 0 r.length) [some (.row 1 (List.map vt r))] := by
  dsimp only [slices_Grow_string] at h
  refine FnL.ofS (ts := [4]) Tryz.call216 Tryz.func216 rfl rfl (Nat.le_of_ble_eq_true rfl) (Nat.le_of_ble_eq_true rfl) (fun j h => absurd h (Nat.not_lt_zero j)) ?_
  refine sr [(0, .emp), (1, vi a0)] [] ?_
  refine TriE.seq ?_
  refine sr [(0, .emp), (1, vi a0), (6, vb (decide (a0 < (0 : Int))))] [] ?_
  refine TriE.cond (b := decide (a0 < (0 : Int))) rfl (fun c1 => ?_) (fun c1 => ?_)
  · have h := cond_t h c1
    refine TriE.regJ ?_
    cases h
  have h := cond_f h c1
  refine TriE.skip ?_
  refine TriE.seqK h (fun (v1 : (List Str)) => St.mk [(0, .own 0 0 v1.length)] [some (.row 1 (List.map vt v1))]) ?_ ?_
  · rintro v1 h
    refine sr [(4, .own 0 0 v1.length)] [some (.row 1 (List.map vt v1))] ?_
    refine TriE.ret ?_
    have h := Option.some.inj h
    subst h
    exact DoneS.ret (S' := ⟨[(4, .own 0 0 v1.length)], [some (.row 1 (List.map vt v1))]⟩) Sees.refl rfl rfl
  intro k1 h
  refine sj ?_
  refine rn 2 [(0, .emp), (8, vi a0), (9, .emp)] [] ?_
  refine RegJ.capE (d := some 10) (x := .t 9) (by kernel_rfl) rfl rfl ?_
  refine rn 2 [(0, .emp), (8, vi a0), (10, vi 0), (12, vi 0)] [] ?_
  obtain ⟨c2, h⟩ := chk_some h
  refine jv (vi (0 - 0)) (cy (I0 13 (.bin .sub false (.t 10) (.t 12)))) (r_sub rfl rfl c2) rfl ?_
  obtain ⟨c3, h⟩ := chk_some h
  refine jv (vi (a0 - (0 - 0))) (cy (I0 14 (.bin .sub false (.t 8) (.t 13)))) (r_sub rfl rfl c3) rfl ?_
  refine jq 1 [(0, .emp), (1, vi (a0 - (0 - 0)))] [] ?_
  refine sr [(0, .emp), (1, vi (a0 - (0 - 0))), (16, vb (decide ((0 : Int) < (a0 - (0 - 0)))))] [] ?_
  refine TriE.cond (b := decide ((0 : Int) < (a0 - (0 - 0)))) rfl (fun c4 => ?_) (fun c4 => ?_)
  · have h := cond_t h c4
    refine TriE.regJ ?_
    refine rn 2 [(0, .emp), (1, vi (a0 - (0 - 0))), (17, .emp), (18, .emp)] [] ?_
    refine RegJ.capE (d := some 19) (x := .t 18) (by kernel_rfl) rfl rfl ?_
    refine rn 2 [(0, .emp), (20, .emp), (21, vi (a0 - (0 - 0)))] [] ?_
    obtain ⟨c5, h⟩ := chk_some h
    obtain ⟨c6, h⟩ := chk_some h
    obtain ⟨c7, h⟩ := chk_some h
    refine RegJ.appZ (d := some 22) (kk := 1) (b := 16) (n := (a0 - (0 - 0)).toNat) (x := .t 20) (y := .t 21) (by kernel_rfl) rfl rfl rfl rfl (nn_to c5) c6 c7 ?_
    refine rn 2 [(22, .own 0 0 ((a0 - (0 - 0)).toNat)), (24, vi 0)] [some (.row 1 (List.map vt ([] : List Str)))] ?_
    obtain ⟨c8, h⟩ := chk_some h
    refine jv (.own 0 0 (([] : List Str).length)) (cy (I0 25 (.slc 1 (.t 22) none (some (.t 24)) none))) (ok_slco_hi (j := 0) rfl rfl rfl rfl c8) rfl ?_
    refine jq 1 [(0, .own 0 0 (([] : List Str).length))] [some (.row 1 (List.map vt ([] : List Str)))] ?_
    exact Vs.intro sy ⟨([] : List Str), rfl, h⟩
  have h := cond_f h c4
  refine TriE.skip ?_
  exact Vs.intro (Sees.trans (Sees.co (fr' := [(0, .own 0 0 0)]) (ob' := []) (.cons .own .nil) ObCo.nil 1) sy) ⟨([] : List Str), rfl, h⟩
theorem slices_Concat_string_ok (n : Nat) (a0 : List (List Str)) (r : (List Str)) (h : slices_Concat_string n a0 = some r) : FnL Tryz.prog 187 [.own 0 0 a0.length] [some (.row 1 (List.map (eS 1 vt) a0))] (eS 1 vt r) [some (.row 1 (List.map (eS 1 vt) a0))] := by
  dsimp only [slices_Concat_string] at h
  refine FnL.ofS (ts := [2]) Tryz.call187 Tryz.func187 rfl rfl (Nat.le_of_ble_eq_true rfl) (Nat.le_of_ble_eq_true rfl) (hall_of (.cons rfl .nil)) ?_
  refine sr [(0, .own 0 0 a0.length)] [some (.row 1 (List.map (eS 1 vt) a0))] ?_
  refine sr [(0, .own 0 0 a0.length), (3, vi 0)] [some (.row 1 (List.map (eS 1 vt) a0))] ?_
  refine TriE.seqK h (fun (v3 : Nat) => St.mk [(0, .own 0 0 a0.length), (3, vi v3)] [some (.row 1 (List.map (eS 1 vt) a0))]) ?_ ?_
  · rintro v3 h
    refine sj ?_
    refine rn 1 [(0, .own 0 0 a0.length), (23, vi v3)] [some (.row 1 (List.map (eS 1 vt) a0))] ?_
    obtain ⟨y4, hy4, h⟩ := bind_some h
    refine RegJ.op (Op1.call (y' := .own 1 0 y4.length) (obx := []) (oby := [some (.row 1 (List.map vt y4))]) (ob2 := [some (.row 1 (List.map (eS 1 vt) a0)), some (.row 1 (List.map vt y4))]) _ _ (cy (I0 24 (.call 216 [(.c .emp), (.t 23)]))) rfl (slices_Grow_string_ok n (v3 : Int) y4 hy4) [] (by kernel_rfl) (.cons rfl (.cons rfl (.cons rfl .nil))) (by kernel_rfl) (by kernel_rfl) ObsRen.nil (by kernel_rfl) (.same (row_ren vt_frz _ _ _) .nil) (by kernel_rfl)) ?_
    refine jq 1 [(0, .own 0 0 a0.length), (6, .own 1 0 y4.length)] [some (.row 1 (List.map (eS 1 vt) a0)), some (.row 1 (List.map vt y4))] ?_
    refine TriE.seqK h (fun (v7 : (List Str)) => St.mk [(6, .own 1 0 v7.length)] [some (.row 1 (List.map (eS 1 vt) a0)), some (.row 1 (List.map vt v7))]) ?_ ?_
    · rintro v7 h
      refine sr [(2, .own 1 0 v7.length)] [some (.row 1 (List.map (eS 1 vt) a0)), some (.row 1 (List.map vt v7))] ?_
      refine TriE.ret ?_
      have h := Option.some.inj h
      subst h
      exact DoneS.ret (S' := ⟨[(2, eS 1 vt v7)], [some (.row 1 (List.map (eS 1 vt) a0))]⟩) (Sees.trans (Sees.freeze 1 (fr' := [(2, eS 1 vt v7)]) (ob' := [some (.row 1 (List.map (eS 1 vt) a0)), none]) rfl (frz_row vt_frzE _) (.cons (frz_full rfl) .nil) rfl) (sc [0] (by decide) (by kernel_rfl) (obRen_row (eS_frz 1 vt) rfl .nil) rfl rfl)) rfl rfl
    intro k2 h
    refine sr [(6, .own 1 0 y4.length), (25, .own 0 0 a0.length), (26, vi (a0.length : Int)), (27, vi 0)] [some (.row 1 (List.map (eS 1 vt) a0)), some (.row 1 (List.map vt y4))] ?_
    refine TriE.block ?_
    refine TriE.sees (S' := ⟨[(6, .own 1 0 y4.length), (25, .own 0 0 a0.length), (26, vi (a0.length : Int)), (27, vi 0)], [some (.row 1 (List.map (eS 1 vt) a0)), some (.row 1 (List.map vt y4))]⟩) sy ?_
    refine TriE.loopN h (fun (t : Nat × (List Str)) => match t with | (v5, v6) => St.mk [(6, .own 1 0 v6.length), (25, .own 0 0 a0.length), (26, vi (a0.length : Int)), (27, vi v5)] [some (.row 1 (List.map (eS 1 vt) a0)), some (.row 1 (List.map vt v6))]) rfl ?_
    clear h
    rintro back ⟨v5, v6⟩ h
    dsimp only [slices_Concat_string_L2] at h
    refine sj ?_
    refine jv (vb (decide (v5 < a0.length))) (cy (I0 28 (.bin .lss false (.t 27) (.t 26)))) (n_lss (i := v5) (j := a0.length) rfl rfl) rfl ?_
    refine jp [(6, .own 1 0 v6.length), (25, .own 0 0 a0.length), (26, vi (a0.length : Int)), (27, vi v5), (28, vb (decide (v5 < a0.length)))] ?_
    refine TriE.seq ?_
    refine TriE.cond (b := decide (v5 < a0.length)) rfl (fun c5 => ?_) (fun c5 => ?_)
    · have h := cond_t h c5
      refine TriE.skip ?_
      refine TriE.seq ?_
      refine TriE.block ?_
      refine sj ?_
      refine jv (.ptr 0 v5 0) (cy (I0 29 (.iaddr 1 (.t 25) (.t 27)))) (ok_iaddr_o0 (j := v5) rfl rfl rfl rfl c5) rfl ?_
      refine jv (eS 1 vt (ix a0 v5)) (cy (I0 30 (.load false 1 (.t 29)))) (ok_load_pm (l := a0) (e := (eS 1 vt)) (v := eS 1 vt (ix a0 v5)) rfl rfl c5 rfl) rfl ?_
      refine jq 1 [(6, .own 1 0 v6.length), (25, .own 0 0 a0.length), (26, vi (a0.length : Int)), (27, vi v5), (8, eS 1 vt (ix a0 v5))] [some (.row 1 (List.map (eS 1 vt) a0)), some (.row 1 (List.map vt v6))] ?_
      refine TriE.regJ ?_
      refine rn 2 [(25, .own 0 0 a0.length), (26, vi (a0.length : Int)), (27, vi v5), (31, .own 1 0 v6.length), (32, eS 1 vt (ix a0 v5))] [some (.row 1 (List.map (eS 1 vt) a0)), some (.row 1 (List.map vt v6))] ?_
      obtain ⟨c6, h⟩ := chk_some h
      refine je (.own 2 0 ((v6 ++ (ix a0 v5)).length)) [some (.row 1 (List.map (eS 1 vt) a0)), none, some (.row 1 (List.map vt (v6 ++ (ix a0 v5))))] (cy (I0 33 (.app 1 16 (.t 31) (.t 32)))) (ok_app_own (l := v6) (l2 := (ix a0 v5)) (e := vt) (u := eS 1 vt (ix a0 v5)) rfl rfl rfl rfl els_sl c6) rfl rfl rfl ?_
      refine jq 1 [(25, .own 0 0 a0.length), (26, vi (a0.length : Int)), (27, vi v5), (6, .own 2 0 ((v6 ++ (ix a0 v5)).length))] [some (.row 1 (List.map (eS 1 vt) a0)), none, some (.row 1 (List.map vt (v6 ++ (ix a0 v5))))] ?_
      refine TriE.regJ ?_
      obtain ⟨c7, h⟩ := chk_some h
      refine jv (vi ((v5 + 1 : Nat) : Int)) (cy (I0 34 (.bin .add false (.t 27) (.c (.p (.int .i64 1)))))) (r_addn (i := v5) (j := 1) rfl rfl c7) rfl ?_
      refine jq 1 [(25, .own 0 0 a0.length), (26, vi (a0.length : Int)), (6, .own 2 0 ((v6 ++ (ix a0 v5)).length)), (27, vi ((v5 + 1 : Nat) : Int))] [some (.row 1 (List.map (eS 1 vt) a0)), none, some (.row 1 (List.map vt (v6 ++ (ix a0 v5))))] ?_
      exact Vs.intro (sc [0, 2] (by decide) (by kernel_rfl) (obRen_row (eS_frz 1 vt) rfl (obRen_row vt_frz rfl .nil)) rfl rfl) ⟨(v5 + 1, (v6 ++ (ix a0 v5))), rfl, h⟩
    have h := cond_f h c5
    refine TriE.exit ?_
    exact Vs.intro sy ⟨v6, rfl, h⟩
  intro k1 h
  refine sr [(0, .own 0 0 a0.length), (3, vi 0), (9, .own 0 0 a0.length), (10, vi (a0.length : Int)), (11, vi 0)] [some (.row 1 (List.map (eS 1 vt) a0))] ?_
  refine TriE.block ?_
  refine TriE.sees (S' := ⟨[(0, .own 0 0 a0.length), (3, vi 0), (9, .own 0 0 a0.length), (10, vi (a0.length : Int)), (11, vi 0)], [some (.row 1 (List.map (eS 1 vt) a0))]⟩) sy ?_
  refine TriE.loopN h (fun (t : Nat × Nat) => match t with | (v1, v2) => St.mk [(0, .own 0 0 a0.length), (3, vi v1), (9, .own 0 0 a0.length), (10, vi (a0.length : Int)), (11, vi v2)] [some (.row 1 (List.map (eS 1 vt) a0))]) rfl ?_
  clear h
  rintro back ⟨v1, v2⟩ h
  dsimp only [slices_Concat_string_L1] at h
  refine sj ?_
  refine jv (vb (decide (v2 < a0.length))) (cy (I0 12 (.bin .lss false (.t 11) (.t 10)))) (n_lss (i := v2) (j := a0.length) rfl rfl) rfl ?_
  refine jp [(0, .own 0 0 a0.length), (3, vi v1), (9, .own 0 0 a0.length), (10, vi (a0.length : Int)), (11, vi v2), (12, vb (decide (v2 < a0.length)))] ?_
  refine TriE.seq ?_
  refine TriE.cond (b := decide (v2 < a0.length)) rfl (fun c1 => ?_) (fun c1 => ?_)
  · have h := cond_t h c1
    refine TriE.skip ?_
    refine TriE.seq ?_
    refine TriE.block ?_
    refine sj ?_
    refine jv (.ptr 0 v2 0) (cy (I0 13 (.iaddr 1 (.t 9) (.t 11)))) (ok_iaddr_o0 (j := v2) rfl rfl rfl rfl c1) rfl ?_
    refine jv (eS 1 vt (ix a0 v2)) (cy (I0 14 (.load false 1 (.t 13)))) (ok_load_pm (l := a0) (e := (eS 1 vt)) (v := eS 1 vt (ix a0 v2)) rfl rfl c1 rfl) rfl ?_
    refine jq 1 [(0, .own 0 0 a0.length), (3, vi v1), (9, .own 0 0 a0.length), (10, vi (a0.length : Int)), (11, vi v2), (5, eS 1 vt (ix a0 v2))] [some (.row 1 (List.map (eS 1 vt) a0))] ?_
    refine sj ?_
    refine rn 2 [(0, .own 0 0 a0.length), (9, .own 0 0 a0.length), (10, vi (a0.length : Int)), (11, vi v2), (15, vi v1), (16, eS 1 vt (ix a0 v2))] [some (.row 1 (List.map (eS 1 vt) a0))] ?_
    refine jv (vi (((ix a0 v2).length : Nat) : Int)) (cy (I0 17 (.len 0 (.t 16)))) (ok_len_m rfl) rfl ?_
    obtain ⟨c2, h⟩ := chk_some h
    refine jv (vi ((v1 + ((ix a0 v2).length) : Nat) : Int)) (cy (I0 18 (.bin .add false (.t 15) (.t 17)))) (r_addn (i := v1) (j := (ix a0 v2).length) rfl rfl c2) rfl ?_
    refine jq 1 [(0, .own 0 0 a0.length), (9, .own 0 0 a0.length), (10, vi (a0.length : Int)), (11, vi v2), (3, vi ((v1 + ((ix a0 v2).length) : Nat) : Int))] [some (.row 1 (List.map (eS 1 vt) a0))] ?_
    refine sj ?_
    refine rn 1 [(0, .own 0 0 a0.length), (9, .own 0 0 a0.length), (10, vi (a0.length : Int)), (11, vi v2), (3, vi ((v1 + ((ix a0 v2).length) : Nat) : Int)), (19, vi ((v1 + ((ix a0 v2).length) : Nat) : Int))] [some (.row 1 (List.map (eS 1 vt) a0))] ?_
    refine jv (vb (decide ((v1 + ((ix a0 v2).length)) < 0))) (cy (I0 20 (.bin .lss false (.t 19) (.c (.p (.int .i64 0)))))) (n_lss (i := v1 + ((ix a0 v2).length)) (j := 0) rfl rfl) rfl ?_
    refine jp [(0, .own 0 0 a0.length), (9, .own 0 0 a0.length), (10, vi (a0.length : Int)), (11, vi v2), (3, vi ((v1 + ((ix a0 v2).length) : Nat) : Int)), (20, vb (decide ((v1 + ((ix a0 v2).length)) < 0)))] ?_
    refine TriE.cond (b := decide ((v1 + ((ix a0 v2).length)) < 0)) rfl (fun c3 => ?_) (fun c3 => ?_)
    · have h := cond_t h c3
      refine TriE.regJ ?_
      cases h
    have h := cond_f h c3
    refine TriE.skip ?_
    refine TriE.regJ ?_
    obtain ⟨c4, h⟩ := chk_some h
    refine jv (vi ((v2 + 1 : Nat) : Int)) (cy (I0 22 (.bin .add false (.t 11) (.c (.p (.int .i64 1)))))) (r_addn (i := v2) (j := 1) rfl rfl c4) rfl ?_
    refine jq 1 [(0, .own 0 0 a0.length), (9, .own 0 0 a0.length), (10, vi (a0.length : Int)), (3, vi ((v1 + ((ix a0 v2).length) : Nat) : Int)), (11, vi ((v2 + 1 : Nat) : Int))] [some (.row 1 (List.map (eS 1 vt) a0))] ?_
    exact Vs.intro sy ⟨(v1 + ((ix a0 v2).length), v2 + 1), rfl, h⟩
  have h := cond_f h c1
  refine TriE.exit ?_
  exact Vs.intro sy ⟨v1, rfl, h⟩
theorem restore_leads_ok (n : Nat) (a0 : Task) (r : (List Str)) (h : restore_leads n a0 = some r) : FnL Tryz.prog 146 [.agg [vt a0.Name, vi a0.Cents, vi a0.Hours, eS 1 vt a0.Needs, eS 1 (eS 1 vt) a0.OneOf, eS 2 ePartCount a0.Parts]] [] (eS 1 vt r) [] := by
  dsimp only [restore_leads] at h
  refine FnL.ofS (ts := [2]) Tryz.call146 Tryz.func146 rfl rfl (Nat.le_of_ble_eq_true rfl) (Nat.le_of_ble_eq_true rfl) (fun j h => absurd h (Nat.not_lt_zero j)) ?_
  refine sr [(1, .ptr 0 0 0)] [some (.row 6 [.agg [vt a0.Name, vi a0.Cents, vi a0.Hours, eS 1 vt a0.Needs, eS 1 (eS 1 vt) a0.OneOf, eS 2 ePartCount a0.Parts]])] ?_
  refine sj ?_
  refine rn 5 [(5, .own 1 0 1), (7, eS 1 (eS 1 vt) a0.OneOf)] [some (.row 6 [.agg [vt a0.Name, vi a0.Cents, vi a0.Hours, eS 1 vt a0.Needs, eS 1 (eS 1 vt) a0.OneOf, eS 2 ePartCount a0.Parts]]), some (.row 1 [eS 1 vt a0.Needs])] ?_
  obtain ⟨c1, h⟩ := chk_some h
  refine je (.own 2 0 ((([a0.Needs] : List (List Str)) ++ a0.OneOf).length)) [some (.row 6 [.agg [vt a0.Name, vi a0.Cents, vi a0.Hours, eS 1 vt a0.Needs, eS 1 (eS 1 vt) a0.OneOf, eS 2 ePartCount a0.Parts]]), none, some (.row 1 (List.map (eS 1 vt) (([a0.Needs] : List (List Str)) ++ a0.OneOf)))] (cy (I0 8 (.app 1 24 (.t 5) (.t 7)))) (ok_app_own (l := ([a0.Needs] : List (List Str))) (l2 := a0.OneOf) (e := (eS 1 vt)) (u := eS 1 (eS 1 vt) a0.OneOf) rfl rfl rfl rfl els_sl c1) rfl rfl rfl ?_
  obtain ⟨y1, hy1, h⟩ := bind_some h
  refine RegJ.op (Op1.call (y' := eS 1 vt y1) (obx := [some (.row 1 (List.map (eS 1 vt) (([a0.Needs] : List (List Str)) ++ a0.OneOf)))]) (oby := [some (.row 1 (List.map (eS 1 vt) (([a0.Needs] : List (List Str)) ++ a0.OneOf)))]) (ob2 := [some (.row 6 [.agg [vt a0.Name, vi a0.Cents, vi a0.Hours, eS 1 vt a0.Needs, eS 1 (eS 1 vt) a0.OneOf, eS 2 ePartCount a0.Parts]]), none, some (.row 1 (List.map (eS 1 vt) (([a0.Needs] : List (List Str)) ++ a0.OneOf)))]) _ _ (cy (I0 9 (.call 187 [(.t 8)]))) rfl (slices_Concat_string_ok n (([a0.Needs] : List (List Str)) ++ a0.OneOf) y1 hy1) [2] (by kernel_rfl) (.cons rfl (.cons rfl .nil)) (by kernel_rfl) (by kernel_rfl) (.same (row_ren (eS_frz 1 vt) _ _ _) .nil) (by kernel_rfl) (.same (row_ren (eS_frz 1 vt) _ _ _) .nil) (by kernel_rfl)) ?_
  refine jq 1 [(2, eS 1 vt y1)] [some (.row 6 [.agg [vt a0.Name, vi a0.Cents, vi a0.Hours, eS 1 vt a0.Needs, eS 1 (eS 1 vt) a0.OneOf, eS 2 ePartCount a0.Parts]]), none, some (.row 1 (List.map (eS 1 vt) (([a0.Needs] : List (List Str)) ++ a0.OneOf)))] ?_
  refine TriE.ret ?_
  have h := Option.some.inj h
  subst h
  exact DoneS.ret (S' := ⟨[(2, eS 1 vt y1)], []⟩) (sc [] (by decide) (by kernel_rfl) ObRen.nil rfl rfl) rfl rfl
theorem slices_Index_string_2_ok (n : Nat) (a0 : List Str) (a1 : Str) (r : Int) (h : slices_Index_string_2 n a0 a1 = some r) : FnL Tryz.prog 189 [.own 0 0 a0.length, vt a1] [some (.row 1 (List.map vt a0))] (vi r) [some (.row 1 (List.map vt a0))] := by
  dsimp only [slices_Index_string_2] at h
  refine FnL.ofS (ts := [4]) Tryz.call189 Tryz.func189 rfl rfl (Nat.le_of_ble_eq_true rfl) (Nat.le_of_ble_eq_true rfl) (hall_of (.cons rfl .nil)) ?_
  refine sr [(0, .own 0 0 a0.length), (1, vt a1)] [some (.row 1 (List.map vt a0))] ?_
  refine TriE.seqK h (fun (_ : Unit) => St.mk [] [some (.row 1 (List.map vt a0))]) ?_ ?_
  · rintro ⟨⟩ h
    refine sr [(4, vi (-1))] [some (.row 1 (List.map vt a0))] ?_
    refine TriE.ret ?_
    have h := Option.some.inj h
    subst h
    exact DoneS.ret (S' := ⟨[(4, vi (-1))], [some (.row 1 (List.map vt a0))]⟩) Sees.refl rfl rfl
  intro k1 h
  refine sr [(0, .own 0 0 a0.length), (1, vt a1), (7, vi (a0.length : Int)), (8, vi 0)] [some (.row 1 (List.map vt a0))] ?_
  refine TriE.block ?_
  refine TriE.sees (S' := ⟨[(0, .own 0 0 a0.length), (1, vt a1), (7, vi (a0.length : Int)), (8, vi 0)], [some (.row 1 (List.map vt a0))]⟩) sy ?_
  refine TriE.loopN h (fun (v1 : Nat) => St.mk [(0, .own 0 0 a0.length), (1, vt a1), (7, vi (a0.length : Int)), (8, vi v1)] [some (.row 1 (List.map vt a0))]) rfl ?_
  clear h
  rintro back v1 h
  dsimp only [slices_Index_string_2_L1] at h
  refine sj ?_
  refine jv (vb (decide (v1 < a0.length))) (cy (I0 9 (.bin .lss false (.t 8) (.t 7)))) (n_lss (i := v1) (j := a0.length) rfl rfl) rfl ?_
  refine jp [(0, .own 0 0 a0.length), (1, vt a1), (7, vi (a0.length : Int)), (8, vi v1), (9, vb (decide (v1 < a0.length)))] ?_
  refine TriE.seq ?_
  refine TriE.cond (b := decide (v1 < a0.length)) rfl (fun c1 => ?_) (fun c1 => ?_)
  · have h := cond_t h c1
    refine TriE.skip ?_
    refine TriE.seq ?_
    refine TriE.block ?_
    refine sr [(0, .own 0 0 a0.length), (1, vt a1), (7, vi (a0.length : Int)), (8, vi v1), (5, vi v1)] [some (.row 1 (List.map vt a0))] ?_
    refine sj ?_
    refine rn 3 [(0, .own 0 0 a0.length), (1, vt a1), (7, vi (a0.length : Int)), (8, vi v1), (5, vi v1), (11, vt a1), (12, .own 0 0 a0.length), (13, vi v1)] [some (.row 1 (List.map vt a0))] ?_
    refine jv (.ptr 0 v1 0) (cy (I0 14 (.iaddr 1 (.t 12) (.t 13)))) (ok_iaddr_o0 (j := v1) rfl rfl rfl rfl c1) rfl ?_
    refine jv (vt (ix a0 v1)) (cy (I0 15 (.load false 1 (.t 14)))) (ok_load_pm (l := a0) (e := vt) (v := vt (ix a0 v1)) rfl rfl c1 rfl) rfl ?_
    refine jq 1 [(0, .own 0 0 a0.length), (1, vt a1), (7, vi (a0.length : Int)), (8, vi v1), (5, vi v1), (16, vb (a1 == (ix a0 v1)))] [some (.row 1 (List.map vt a0))] ?_
    refine TriE.cond (b := (a1 == (ix a0 v1))) rfl (fun c2 => ?_) (fun c2 => ?_)
    · have h := cond_t h c2
      refine sr [(4, vi v1)] [some (.row 1 (List.map vt a0))] ?_
      refine TriE.ret ?_
      have h := Option.some.inj h
      subst h
      exact DoneS.ret (S' := ⟨[(4, vi v1)], [some (.row 1 (List.map vt a0))]⟩) Sees.refl rfl rfl
    have h := cond_f h c2
    refine TriE.skip ?_
    refine TriE.regJ ?_
    obtain ⟨c3, h⟩ := chk_some h
    refine jv (vi ((v1 + 1 : Nat) : Int)) (cy (I0 18 (.bin .add false (.t 8) (.c (.p (.int .i64 1)))))) (r_addn (i := v1) (j := 1) rfl rfl c3) rfl ?_
    refine jq 1 [(0, .own 0 0 a0.length), (1, vt a1), (7, vi (a0.length : Int)), (8, vi ((v1 + 1 : Nat) : Int))] [some (.row 1 (List.map vt a0))] ?_
    exact Vs.intro sy ⟨(v1 + 1), rfl, h⟩
  have h := cond_f h c1
  refine TriE.exit ?_
  exact Vs.intro sy ⟨(), rfl, h⟩
theorem slices_Contains_string_2_ok (n : Nat) (a0 : List Str) (a1 : Str) (r : Bool) (h : slices_Contains_string_2 n a0 a1 = some r) : FnL Tryz.prog 154 [.own 0 0 a0.length, vt a1] [some (.row 1 (List.map vt a0))] (vb r) [some (.row 1 (List.map vt a0))] := by
  dsimp only [slices_Contains_string_2] at h
  refine FnL.ofS (ts := [4]) Tryz.call154 Tryz.func154 rfl rfl (Nat.le_of_ble_eq_true rfl) (Nat.le_of_ble_eq_true rfl) (hall_of (.cons rfl .nil)) ?_
  refine sr [(0, .own 0 0 a0.length), (1, vt a1)] [some (.row 1 (List.map vt a0))] ?_
  refine sj ?_
  refine rn 2 [(5, .own 0 0 a0.length), (6, vt a1)] [some (.row 1 (List.map vt a0))] ?_
  obtain ⟨y1, hy1, h⟩ := bind_some h
  refine RegJ.op (Op1.call (y' := vi y1) (obx := [some (.row 1 (List.map vt a0))]) (oby := [some (.row 1 (List.map vt a0))]) (ob2 := [some (.row 1 (List.map vt a0))]) _ _ (cy (I0 7 (.call 189 [(.t 5), (.t 6)]))) rfl (slices_Index_string_2_ok n a0 a1 y1 hy1) [0] (by kernel_rfl) (.cons rfl (.cons rfl (.cons rfl .nil))) (by kernel_rfl) (by kernel_rfl) (.same (row_ren vt_frz _ _ _) .nil) (by kernel_rfl) (.same (row_ren vt_frz _ _ _) .nil) (by kernel_rfl)) ?_
  refine jq 2 [(4, vb (decide ((0 : Int) ≤ y1)))] [some (.row 1 (List.map vt a0))] ?_
  refine TriE.ret ?_
  have h := Option.some.inj h
  subst h
  exact DoneS.ret (S' := ⟨[(4, vb (decide ((0 : Int) ≤ y1)))], [some (.row 1 (List.map vt a0))]⟩) Sees.refl rfl rfl
theorem restore_list_order_f1_2_ok (n : Nat) (a0 : Str) (a1 : List Str) (r : Bool) (h : restore_list_order_f1_2 n a0 a1 = some r) : FnL Tryz.prog 153 [vt a0, .ptr 0 0 0, .ptr 1 0 0] [some (.row 1 [.fn (.func 87) [] []]), some (.row 1 [.own 2 0 a1.length]), some (.row 1 (List.map vt a1))] (vb r) [some (.row 1 [.fn (.func 87) [] []]), some (.row 1 [.own 2 0 a1.length]), some (.row 1 (List.map vt a1))] := by
  dsimp only [restore_list_order_f1_2] at h
  refine FnL.ofS (ts := [4]) Tryz.call153 Tryz.func153 rfl rfl (Nat.le_of_ble_eq_true rfl) (Nat.le_of_ble_eq_true rfl) (hall_of (.cons rfl (.cons rfl (.cons rfl .nil)))) ?_
  refine sr [(0, vt a0), (1, .ptr 0 0 0), (2, .ptr 1 0 0)] [some (.row 1 [.fn (.func 87) [] []]), some (.row 1 [.own 2 0 a1.length]), some (.row 1 (List.map vt a1))] ?_
  refine sj ?_
  refine rn 2 [(0, vt a0), (2, .ptr 1 0 0), (5, .fn (.func 87) [] []), (6, vt a0)] [some (.row 1 [.fn (.func 87) [] []]), some (.row 1 [.own 2 0 a1.length]), some (.row 1 (List.map vt a1))] ?_
  obtain ⟨y1, hy1, h⟩ := bind_some h
  refine RegJ.op (Op1.dyn (y' := vb true) (obx := []) (oby := []) (ob2 := [some (.row 1 [.fn (.func 87) [] []]), some (.row 1 [.own 2 0 a1.length]), some (.row 1 (List.map vt a1))]) _ _ _ (cy (I0 7 (.dyn (.t 5) [(.t 6)]))) rfl rfl (restore_CheckTasks_f1_ok n a0 y1 hy1) [] (by kernel_rfl) (.cons rfl (.cons rfl .nil)) (by kernel_rfl) (by kernel_rfl) ObsRen.nil (by kernel_rfl) ObsRen.nil (by kernel_rfl)) ?_
  refine rn 1 [(0, vt a0), (2, .ptr 1 0 0), (8, vb true)] [some (.row 1 [.fn (.func 87) [] []]), some (.row 1 [.own 2 0 a1.length]), some (.row 1 (List.map vt a1))] ?_
  refine RegJ.op (Op1.valk (v := .own 2 0 a1.length) _ _ (cy (IG 9 (.load false 1 (.t 2)) 8 true)) rfl (by kernel_rfl) (fun hg => (.cons rfl .nil))) ?_
  refine RegJ.op (Op1.valk (v := vt a0) _ _ (cy (IG 10 (.mov (.t 0)) 8 true)) rfl (by kernel_rfl) (fun hg => (.cons rfl .nil))) ?_
  obtain ⟨y2, hy2, h⟩ := bind_some h
  refine RegJ.op (Op1.callg (g := true) (y' := vb y2) (obx := [some (.row 1 (List.map vt a1))]) _ _ (cy (IG 11 (.call 154 [(.t 9), (.t 10)]) 8 true)) rfl (fun hg => slices_Contains_string_2_ok n a1 a0 y2 (gcall_some hy2 hg)) [2] (fun hg => by kernel_rfl) (fun hg => (.cons rfl (.cons hg (.cons hg .nil)))) (by kernel_rfl) (by kernel_rfl) (.same (row_ren vt_frz _ _ _) .nil) (by kernel_rfl) (by kernel_rfl)) ?_
  refine RegJ.op (Op1.valk (v := vb (!y2)) _ _ (cy (IG 12 (.un .not (.t 11)) 8 true)) rfl (by kernel_rfl) (fun hg => (.cons hg .nil))) ?_
  refine RegJ.op (Op1.and (cy (I0 13 (.pick (.t 8) (.t 12) (.c (.p (.bool false)))))) rfl rfl (by first | exact hokA1 | exact hokA0 | simp)) ?_
  refine jq 1 [(4, vb (true && (!y2)))] [some (.row 1 [.fn (.func 87) [] []]), some (.row 1 [.own 2 0 a1.length]), some (.row 1 (List.map vt a1))] ?_
  refine TriE.ret ?_
  have h := Option.some.inj h
  subst h
  exact DoneS.ret (S' := ⟨[(4, vb (true && (!y2)))], [some (.row 1 [.fn (.func 87) [] []]), some (.row 1 [.own 2 0 a1.length]), some (.row 1 (List.map vt a1))]⟩) Sees.refl rfl rfl
theorem slices_IndexFunc_string_3_ok (n : Nat) (a0 : List Str) (a1 : List Str) (r : Int) (h : slices_IndexFunc_string_3 n a0 a1 = some r) : FnL Tryz.prog 170 [eS 1 vt a0, .fn (.func 153) [] [.ptr 0 0 0, .ptr 1 0 0]] [some (.row 1 [.fn (.func 87) [] []]), some (.row 1 [.own 2 0 a1.length]), some (.row 1 (List.map vt a1))] (vi r) [some (.row 1 [.fn (.func 87) [] []]), some (.row 1 [.own 2 0 a1.length]), some (.row 1 (List.map vt a1))] := by
  dsimp only [slices_IndexFunc_string_3] at h
  refine FnL.ofS (ts := [4]) Tryz.call170 Tryz.func170 rfl rfl (Nat.le_of_ble_eq_true rfl) (Nat.le_of_ble_eq_true rfl) (hall_of (.cons rfl (.cons rfl (.cons rfl .nil)))) ?_
  refine sr [(0, eS 1 vt a0), (1, .fn (.func 153) [] [.ptr 0 0 0, .ptr 1 0 0])] [some (.row 1 [.fn (.func 87) [] []]), some (.row 1 [.own 2 0 a1.length]), some (.row 1 (List.map vt a1))] ?_
  refine TriE.seqK h (fun (_ : Unit) => St.mk [] [some (.row 1 [.fn (.func 87) [] []]), some (.row 1 [.own 2 0 a1.length]), some (.row 1 (List.map vt a1))]) ?_ ?_
  · rintro ⟨⟩ h
    refine sr [(4, vi (-1))] [some (.row 1 [.fn (.func 87) [] []]), some (.row 1 [.own 2 0 a1.length]), some (.row 1 (List.map vt a1))] ?_
    refine TriE.ret ?_
    have h := Option.some.inj h
    subst h
    exact DoneS.ret (S' := ⟨[(4, vi (-1))], [some (.row 1 [.fn (.func 87) [] []]), some (.row 1 [.own 2 0 a1.length]), some (.row 1 (List.map vt a1))]⟩) Sees.refl rfl rfl
  intro k1 h
  refine sj ?_
  refine rn 1 [(0, eS 1 vt a0), (1, .fn (.func 153) [] [.ptr 0 0 0, .ptr 1 0 0]), (6, eS 1 vt a0)] [some (.row 1 [.fn (.func 87) [] []]), some (.row 1 [.own 2 0 a1.length]), some (.row 1 (List.map vt a1))] ?_
  refine jv (vi (a0.length : Int)) (cy (I0 7 (.len 0 (.t 6)))) (ok_len_m rfl) rfl ?_
  refine jq 1 [(0, eS 1 vt a0), (1, .fn (.func 153) [] [.ptr 0 0 0, .ptr 1 0 0]), (7, vi (a0.length : Int)), (8, vi 0)] [some (.row 1 [.fn (.func 87) [] []]), some (.row 1 [.own 2 0 a1.length]), some (.row 1 (List.map vt a1))] ?_
  refine TriE.block ?_
  refine TriE.sees (S' := ⟨[(0, eS 1 vt a0), (1, .fn (.func 153) [] [.ptr 0 0 0, .ptr 1 0 0]), (7, vi (a0.length : Int)), (8, vi 0)], [some (.row 1 [.fn (.func 87) [] []]), some (.row 1 [.own 2 0 a1.length]), some (.row 1 (List.map vt a1))]⟩) sy ?_
  refine TriE.loopN h (fun (v2 : Nat) => St.mk [(0, eS 1 vt a0), (1, .fn (.func 153) [] [.ptr 0 0 0, .ptr 1 0 0]), (7, vi (a0.length : Int)), (8, vi v2)] [some (.row 1 [.fn (.func 87) [] []]), some (.row 1 [.own 2 0 a1.length]), some (.row 1 (List.map vt a1))]) rfl ?_
  clear h
  rintro back v2 h
  dsimp only [slices_IndexFunc_string_3_L1] at h
  refine sj ?_
  refine jv (vb (decide (v2 < a0.length))) (cy (I0 9 (.bin .lss false (.t 8) (.t 7)))) (n_lss (i := v2) (j := a0.length) rfl rfl) rfl ?_
  refine jp [(0, eS 1 vt a0), (1, .fn (.func 153) [] [.ptr 0 0 0, .ptr 1 0 0]), (7, vi (a0.length : Int)), (8, vi v2), (9, vb (decide (v2 < a0.length)))] ?_
  refine TriE.seq ?_
  refine TriE.cond (b := decide (v2 < a0.length)) rfl (fun c1 => ?_) (fun c1 => ?_)
  · have h := cond_t h c1
    refine TriE.skip ?_
    refine TriE.seq ?_
    refine TriE.block ?_
    refine sr [(0, eS 1 vt a0), (1, .fn (.func 153) [] [.ptr 0 0 0, .ptr 1 0 0]), (7, vi (a0.length : Int)), (8, vi v2), (5, vi v2)] [some (.row 1 [.fn (.func 87) [] []]), some (.row 1 [.own 2 0 a1.length]), some (.row 1 (List.map vt a1))] ?_
    refine sj ?_
    refine rn 3 [(0, eS 1 vt a0), (1, .fn (.func 153) [] [.ptr 0 0 0, .ptr 1 0 0]), (7, vi (a0.length : Int)), (8, vi v2), (5, vi v2), (11, .fn (.func 153) [] [.ptr 0 0 0, .ptr 1 0 0]), (12, eS 1 vt a0), (13, vi v2)] [some (.row 1 [.fn (.func 87) [] []]), some (.row 1 [.own 2 0 a1.length]), some (.row 1 (List.map vt a1))] ?_
    refine jv (.fptr 1 (List.map vt a0) v2 0) (cy (I0 14 (.iaddr 1 (.t 12) (.t 13)))) (ok_iaddr_m (j := v2) rfl rfl rfl c1) rfl ?_
    refine jv (vt (ix a0 v2)) (cy (I0 15 (.load false 1 (.t 14)))) (ok_load_fm (v := vt (ix a0 v2)) rfl c1 rfl) rfl ?_
    obtain ⟨y3, hy3, h⟩ := bind_some h
    refine RegJ.op (Op1.dyn (y' := vb y3) (obx := [some (.row 1 [.fn (.func 87) [] []]), some (.row 1 [.own 2 0 a1.length]), some (.row 1 (List.map vt a1))]) (oby := [some (.row 1 [.fn (.func 87) [] []]), some (.row 1 [.own 2 0 a1.length]), some (.row 1 (List.map vt a1))]) (ob2 := [some (.row 1 [.fn (.func 87) [] []]), some (.row 1 [.own 2 0 a1.length]), some (.row 1 (List.map vt a1))]) _ _ _ (cy (I0 16 (.dyn (.t 11) [(.t 15)]))) rfl rfl (restore_list_order_f1_2_ok n (ix a0 v2) a1 y3 hy3) [0, 1, 2] (by kernel_rfl) (.cons rfl (.cons rfl .nil)) (by kernel_rfl) (by kernel_rfl) (.cons rfl (.cons rfl (.same (row_ren vt_frz _ _ _) .nil))) (by kernel_rfl) (.cons rfl (.cons rfl (.same (row_ren vt_frz _ _ _) .nil))) (by kernel_rfl)) ?_
    refine jp [(0, eS 1 vt a0), (1, .fn (.func 153) [] [.ptr 0 0 0, .ptr 1 0 0]), (7, vi (a0.length : Int)), (8, vi v2), (5, vi v2), (16, vb y3)] ?_
    refine TriE.cond (b := y3) rfl (fun c2 => ?_) (fun c2 => ?_)
    · have h := cond_t h c2
      refine sr [(4, vi v2)] [some (.row 1 [.fn (.func 87) [] []]), some (.row 1 [.own 2 0 a1.length]), some (.row 1 (List.map vt a1))] ?_
      refine TriE.ret ?_
      have h := Option.some.inj h
      subst h
      exact DoneS.ret (S' := ⟨[(4, vi v2)], [some (.row 1 [.fn (.func 87) [] []]), some (.row 1 [.own 2 0 a1.length]), some (.row 1 (List.map vt a1))]⟩) Sees.refl rfl rfl
    have h := cond_f h c2
    refine TriE.skip ?_
    refine TriE.regJ ?_
    obtain ⟨c3, h⟩ := chk_some h
    refine jv (vi ((v2 + 1 : Nat) : Int)) (cy (I0 18 (.bin .add false (.t 8) (.c (.p (.int .i64 1)))))) (r_addn (i := v2) (j := 1) rfl rfl c3) rfl ?_
    refine jq 1 [(0, eS 1 vt a0), (1, .fn (.func 153) [] [.ptr 0 0 0, .ptr 1 0 0]), (7, vi (a0.length : Int)), (8, vi ((v2 + 1 : Nat) : Int))] [some (.row 1 [.fn (.func 87) [] []]), some (.row 1 [.own 2 0 a1.length]), some (.row 1 (List.map vt a1))] ?_
    exact Vs.intro sy ⟨(v2 + 1), rfl, h⟩
  have h := cond_f h c1
  refine TriE.exit ?_
  exact Vs.intro sy ⟨(), rfl, h⟩
theorem slices_ContainsFunc_string_3_ok (n : Nat) (a0 : List Str) (a1 : List Str) (r : Bool) (h : slices_ContainsFunc_string_3 n a0 a1 = some r) : FnL Tryz.prog 116 [eS 1 vt a0, .fn (.func 153) [] [.ptr 0 0 0, .ptr 1 0 0]] [some (.row 1 [.fn (.func 87) [] []]), some (.row 1 [.own 2 0 a1.length]), some (.row 1 (List.map vt a1))] (vb r) [some (.row 1 [.fn (.func 87) [] []]), some (.row 1 [.own 2 0 a1.length]), some (.row 1 (List.map vt a1))] := by
  dsimp only [slices_ContainsFunc_string_3] at h
  refine FnL.ofS (ts := [4]) Tryz.call116 Tryz.func116 rfl rfl (Nat.le_of_ble_eq_true rfl) (Nat.le_of_ble_eq_true rfl) (hall_of (.cons rfl (.cons rfl (.cons rfl .nil)))) ?_
  refine sr [(0, eS 1 vt a0), (1, .fn (.func 153) [] [.ptr 0 0 0, .ptr 1 0 0])] [some (.row 1 [.fn (.func 87) [] []]), some (.row 1 [.own 2 0 a1.length]), some (.row 1 (List.map vt a1))] ?_
  refine sj ?_
  refine rn 2 [(5, eS 1 vt a0), (6, .fn (.func 153) [] [.ptr 0 0 0, .ptr 1 0 0])] [some (.row 1 [.fn (.func 87) [] []]), some (.row 1 [.own 2 0 a1.length]), some (.row 1 (List.map vt a1))] ?_
  obtain ⟨y1, hy1, h⟩ := bind_some h
  refine RegJ.op (Op1.call (y' := vi y1) (obx := [some (.row 1 [.fn (.func 87) [] []]), some (.row 1 [.own 2 0 a1.length]), some (.row 1 (List.map vt a1))]) (oby := [some (.row 1 [.fn (.func 87) [] []]), some (.row 1 [.own 2 0 a1.length]), some (.row 1 (List.map vt a1))]) (ob2 := [some (.row 1 [.fn (.func 87) [] []]), some (.row 1 [.own 2 0 a1.length]), some (.row 1 (List.map vt a1))]) _ _ (cy (I0 7 (.call 170 [(.t 5), (.t 6)]))) rfl (slices_IndexFunc_string_3_ok n a0 a1 y1 hy1) [0, 1, 2] (by kernel_rfl) (.cons rfl (.cons rfl (.cons rfl .nil))) (by kernel_rfl) (by kernel_rfl) (.cons rfl (.cons rfl (.same (row_ren vt_frz _ _ _) .nil))) (by kernel_rfl) (.cons rfl (.cons rfl (.same (row_ren vt_frz _ _ _) .nil))) (by kernel_rfl)) ?_
  refine jq 2 [(4, vb (decide ((0 : Int) ≤ y1)))] [some (.row 1 [.fn (.func 87) [] []]), some (.row 1 [.own 2 0 a1.length]), some (.row 1 (List.map vt a1))] ?_
  refine TriE.ret ?_
  have h := Option.some.inj h
  subst h
  exact DoneS.ret (S' := ⟨[(4, vb (decide ((0 : Int) ≤ y1)))], [some (.row 1 [.fn (.func 87) [] []]), some (.row 1 [.own 2 0 a1.length]), some (.row 1 (List.map vt a1))]⟩) Sees.refl rfl rfl
theorem restore_list_order_f2_2_ok (n : Nat) (a0 : Task) (a1 : List Str) (r : Bool) (h : restore_list_order_f2_2 n a0 a1 = some r) : FnL Tryz.prog 156 [.agg [vt a0.Name, vi a0.Cents, vi a0.Hours, eS 1 vt a0.Needs, eS 1 (eS 1 vt) a0.OneOf, eS 2 ePartCount a0.Parts], .ptr 0 0 0] [some (.row 1 [.fn (.func 153) [] [.ptr 1 0 0, .ptr 2 0 0]]), some (.row 1 [.fn (.func 87) [] []]), some (.row 1 [.own 3 0 a1.length]), some (.row 1 (List.map vt a1))] (vb r) [some (.row 1 [.fn (.func 153) [] [.ptr 1 0 0, .ptr 2 0 0]]), some (.row 1 [.fn (.func 87) [] []]), some (.row 1 [.own 3 0 a1.length]), some (.row 1 (List.map vt a1))] := by
  dsimp only [restore_list_order_f2_2] at h
  refine FnL.ofS (ts := [3]) Tryz.call156 Tryz.func156 rfl rfl (Nat.le_of_ble_eq_true rfl) (Nat.le_of_ble_eq_true rfl) (hall_of (.cons rfl (.cons rfl (.cons rfl (.cons rfl .nil))))) ?_
  refine sr [(1, .ptr 0 0 0), (2, .ptr 4 0 0)] [some (.row 1 [.fn (.func 153) [] [.ptr 1 0 0, .ptr 2 0 0]]), some (.row 1 [.fn (.func 87) [] []]), some (.row 1 [.own 3 0 a1.length]), some (.row 1 (List.map vt a1)), some (.row 6 [.agg [vt a0.Name, vi a0.Cents, vi a0.Hours, eS 1 vt a0.Needs, eS 1 (eS 1 vt) a0.OneOf, eS 2 ePartCount a0.Parts]])] ?_
  refine TriE.seq ?_
  refine TriE.sees (Sees.less (fr' := [(1, .ptr 0 0 0), (2, .ptr 4 0 0)]) (.cons rfl (.cons rfl .nil))) ?_
  refine TriE.draw (by kernel_rfl) ?_
  refine RegD.run 3 [(6, vt a0.Name), (5, .ptr 4 0 0), (4, .fn (.func 153) [] [.ptr 1 0 0, .ptr 2 0 0]), (1, .ptr 0 0 0), (2, .ptr 4 0 0)] [some (.row 1 [.fn (.func 153) [] [.ptr 1 0 0, .ptr 2 0 0]]), some (.row 1 [.fn (.func 87) [] []]), some (.row 1 [.own 3 0 a1.length]), some (.row 1 (List.map vt a1)), some (.row 6 [.agg [vt a0.Name, vi a0.Cents, vi a0.Hours, eS 1 vt a0.Needs, eS 1 (eS 1 vt) a0.OneOf, eS 2 ePartCount a0.Parts]]), none, none, none] (by kernel_rfl) ?_
  obtain ⟨y1, hy1, h⟩ := bind_some h
  refine RegD.op (OpD.dyn (y' := vb y1) (obx := [some (.row 1 [.fn (.func 87) [] []]), some (.row 1 [.own 3 0 a1.length]), some (.row 1 (List.map vt a1))]) (oby := [some (.row 1 [.fn (.func 87) [] []]), some (.row 1 [.own 3 0 a1.length]), some (.row 1 (List.map vt a1))]) (ob2 := [some (.row 1 [.fn (.func 153) [] [.ptr 1 0 0, .ptr 2 0 0]]), some (.row 1 [.fn (.func 87) [] []]), some (.row 1 [.own 3 0 a1.length]), some (.row 1 (List.map vt a1)), some (.row 6 [.agg [vt a0.Name, vi a0.Cents, vi a0.Hours, eS 1 vt a0.Needs, eS 1 (eS 1 vt) a0.OneOf, eS 2 ePartCount a0.Parts]]), none, none, none, none]) (tch := []) 0 _ _ _ (cy (I0 7 (.dyn (.t 4) [(.t 6)]))) rfl (restore_list_order_f1_2_ok n a0.Name a1 y1 hy1) [1, 2, 3] (by kernel_rfl) (.cons rfl (.cons rfl .nil)) (by kernel_rfl) (by kernel_rfl) (.cons rfl (.cons rfl (.same (row_ren vt_frz _ _ _) .nil))) (by kernel_rfl) (.cons rfl (.cons rfl (.same (row_ren vt_frz _ _ _) .nil))) (by kernel_rfl) rfl (.inr ⟨rfl, rfl⟩)) ?_
  refine RegD.run 1 [(8, vb y1), (7, vb y1), (6, vt a0.Name), (5, .ptr 4 0 0), (4, .fn (.func 153) [] [.ptr 1 0 0, .ptr 2 0 0]), (1, .ptr 0 0 0), (2, .ptr 4 0 0)] [some (.row 1 [.fn (.func 153) [] [.ptr 1 0 0, .ptr 2 0 0]]), some (.row 1 [.fn (.func 87) [] []]), some (.row 1 [.own 3 0 a1.length]), some (.row 1 (List.map vt a1)), some (.row 6 [.agg [vt a0.Name, vi a0.Cents, vi a0.Hours, eS 1 vt a0.Needs, eS 1 (eS 1 vt) a0.OneOf, eS 2 ePartCount a0.Parts]]), none, none, none, none, none] (by kernel_rfl) ?_
  refine RegD.op (OpD.valk (g := y1) (v := .agg [vt a0.Name, vi a0.Cents, vi a0.Hours, eS 1 vt a0.Needs, eS 1 (eS 1 vt) a0.OneOf, eS 2 ePartCount a0.Parts]) _ _ (cy (IG 9 (.load true 6 (.t 2)) 8 true)) rfl (by kernel_rfl) (fun hg => (.cons rfl .nil))) ?_
  obtain ⟨y2, hy2, h⟩ := bind_some h
  refine RegD.op (OpD.callg (g := y1) (y' := eS 1 vt y2) (obx := []) _ _ (cy (IG 10 (.call 146 [(.t 9)]) 8 true)) rfl (fun hg => restore_leads_ok n a0 y2 (gcall_some hy2 hg)) [] (fun hg => by kernel_rfl) (fun hg => (.cons rfl (.cons hg .nil))) (by kernel_rfl) (by kernel_rfl) ObsRen.nil (by kernel_rfl) (by kernel_rfl) rfl) ?_
  refine RegD.op (OpD.valk (g := y1) (v := .fn (.func 153) [] [.ptr 1 0 0, .ptr 2 0 0]) _ _ (cy (IG 11 (.load false 1 (.t 1)) 8 true)) rfl (by kernel_rfl) (fun hg => (.cons rfl .nil))) ?_
  obtain ⟨y3, hy3, h⟩ := bind_some h
  refine RegD.op (OpD.callg (g := y1) (y' := vb y3) (obx := [some (.row 1 [.fn (.func 87) [] []]), some (.row 1 [.own 3 0 a1.length]), some (.row 1 (List.map vt a1))]) _ _ (cy (IG 12 (.call 116 [(.t 10), (.t 11)]) 8 true)) rfl (fun hg => slices_ContainsFunc_string_3_ok n y2 a1 y3 (gcall_some hy3 hg)) [1, 2, 3] (fun hg => by kernel_rfl) (fun hg => (.cons rfl (.cons hg (.cons hg .nil)))) (by kernel_rfl) (by kernel_rfl) (.cons rfl (.cons rfl (.same (row_ren vt_frz _ _ _) .nil))) (by kernel_rfl) (by kernel_rfl) rfl) ?_
  refine RegD.op (OpD.valk (g := y1) (v := vb (!y3)) _ _ (cy (IG 13 (.un .not (.t 12)) 8 true)) rfl (by kernel_rfl) (fun hg => (.cons hg .nil))) ?_
  refine RegD.op (OpD.and (cy (I0 14 (.pick (.t 8) (.t 13) (.c (.p (.bool false)))))) rfl rfl (by first | exact hokA1 | exact hokA0 | simp)) ?_
  refine RegD.run 1 [(3, vb (y1 && (!y3))), (14, vb (y1 && (!y3))), (13, .cond y1 (vb (!y3))), (12, .cond y1 (vb y3)), (11, .cond y1 (.fn (.func 153) [] [.ptr 1 0 0, .ptr 2 0 0])), (10, .cond y1 (eS 1 vt y2)), (9, .cond y1 (.agg [vt a0.Name, vi a0.Cents, vi a0.Hours, eS 1 vt a0.Needs, eS 1 (eS 1 vt) a0.OneOf, eS 2 ePartCount a0.Parts])), (8, vb y1), (7, vb y1), (6, vt a0.Name), (5, .ptr 4 0 0), (4, .fn (.func 153) [] [.ptr 1 0 0, .ptr 2 0 0]), (1, .ptr 0 0 0), (2, .ptr 4 0 0)] [some (.row 1 [.fn (.func 153) [] [.ptr 1 0 0, .ptr 2 0 0]]), some (.row 1 [.fn (.func 87) [] []]), some (.row 1 [.own 3 0 a1.length]), some (.row 1 (List.map vt a1)), some (.row 6 [.agg [vt a0.Name, vi a0.Cents, vi a0.Hours, eS 1 vt a0.Needs, eS 1 (eS 1 vt) a0.OneOf, eS 2 ePartCount a0.Parts]]), none, none, none, none, none, none, none, none, none, none, none, none] (by kernel_rfl) ?_
  refine RegD.done rfl (by kernel_rfl) (S' := ⟨[(3, vb (y1 && (!y3)))], [some (.row 1 [.fn (.func 153) [] [.ptr 1 0 0, .ptr 2 0 0]]), some (.row 1 [.fn (.func 87) [] []]), some (.row 1 [.own 3 0 a1.length]), some (.row 1 (List.map vt a1))]⟩) (sc [0, 1, 2, 3] (by decide) (by kernel_rfl) (.cons rfl (.cons rfl (.cons rfl (obRen_row vt_frz rfl .nil)))) rfl rfl) ?_
  refine TriE.ret ?_
  have h := Option.some.inj h
  subst h
  exact DoneS.ret (S' := ⟨[(3, vb (y1 && (!y3)))], [some (.row 1 [.fn (.func 153) [] [.ptr 1 0 0, .ptr 2 0 0]]), some (.row 1 [.fn (.func 87) [] []]), some (.row 1 [.own 3 0 a1.length]), some (.row 1 (List.map vt a1))]⟩) Sees.refl rfl rfl
theorem slices_IndexFunc_Task_3_ok (n : Nat) (a0 : List Task) (a1 : List Str) (r : Int) (h : slices_IndexFunc_Task_3 n a0 a1 = some r) : FnL Tryz.prog 155 [eS 6 eTask a0, .fn (.func 156) [] [.ptr 0 0 0]] [some (.row 1 [.fn (.func 153) [] [.ptr 1 0 0, .ptr 2 0 0]]), some (.row 1 [.fn (.func 87) [] []]), some (.row 1 [.own 3 0 a1.length]), some (.row 1 (List.map vt a1))] (vi r) [some (.row 1 [.fn (.func 153) [] [.ptr 1 0 0, .ptr 2 0 0]]), some (.row 1 [.fn (.func 87) [] []]), some (.row 1 [.own 3 0 a1.length]), some (.row 1 (List.map vt a1))] := by
  dsimp only [slices_IndexFunc_Task_3] at h
  refine FnL.ofS (ts := [4]) Tryz.call155 Tryz.func155 rfl rfl (Nat.le_of_ble_eq_true rfl) (Nat.le_of_ble_eq_true rfl) (hall_of (.cons rfl (.cons rfl (.cons rfl (.cons rfl .nil))))) ?_
  refine sr [(0, eS 6 eTask a0), (1, .fn (.func 156) [] [.ptr 0 0 0])] [some (.row 1 [.fn (.func 153) [] [.ptr 1 0 0, .ptr 2 0 0]]), some (.row 1 [.fn (.func 87) [] []]), some (.row 1 [.own 3 0 a1.length]), some (.row 1 (List.map vt a1))] ?_
  refine TriE.seqK h (fun (_ : Unit) => St.mk [] [some (.row 1 [.fn (.func 153) [] [.ptr 1 0 0, .ptr 2 0 0]]), some (.row 1 [.fn (.func 87) [] []]), some (.row 1 [.own 3 0 a1.length]), some (.row 1 (List.map vt a1))]) ?_ ?_
  · rintro ⟨⟩ h
    refine sr [(4, vi (-1))] [some (.row 1 [.fn (.func 153) [] [.ptr 1 0 0, .ptr 2 0 0]]), some (.row 1 [.fn (.func 87) [] []]), some (.row 1 [.own 3 0 a1.length]), some (.row 1 (List.map vt a1))] ?_
    refine TriE.ret ?_
    have h := Option.some.inj h
    subst h
    exact DoneS.ret (S' := ⟨[(4, vi (-1))], [some (.row 1 [.fn (.func 153) [] [.ptr 1 0 0, .ptr 2 0 0]]), some (.row 1 [.fn (.func 87) [] []]), some (.row 1 [.own 3 0 a1.length]), some (.row 1 (List.map vt a1))]⟩) Sees.refl rfl rfl
  intro k1 h
  refine sj ?_
  refine rn 1 [(0, eS 6 eTask a0), (1, .fn (.func 156) [] [.ptr 0 0 0]), (6, eS 6 eTask a0)] [some (.row 1 [.fn (.func 153) [] [.ptr 1 0 0, .ptr 2 0 0]]), some (.row 1 [.fn (.func 87) [] []]), some (.row 1 [.own 3 0 a1.length]), some (.row 1 (List.map vt a1))] ?_
  refine jv (vi (a0.length : Int)) (cy (I0 7 (.len 0 (.t 6)))) (ok_len_m rfl) rfl ?_
  refine jq 1 [(0, eS 6 eTask a0), (1, .fn (.func 156) [] [.ptr 0 0 0]), (7, vi (a0.length : Int)), (8, vi 0)] [some (.row 1 [.fn (.func 153) [] [.ptr 1 0 0, .ptr 2 0 0]]), some (.row 1 [.fn (.func 87) [] []]), some (.row 1 [.own 3 0 a1.length]), some (.row 1 (List.map vt a1))] ?_
  refine TriE.block ?_
  refine TriE.sees (S' := ⟨[(0, eS 6 eTask a0), (1, .fn (.func 156) [] [.ptr 0 0 0]), (7, vi (a0.length : Int)), (8, vi 0)], [some (.row 1 [.fn (.func 153) [] [.ptr 1 0 0, .ptr 2 0 0]]), some (.row 1 [.fn (.func 87) [] []]), some (.row 1 [.own 3 0 a1.length]), some (.row 1 (List.map vt a1))]⟩) sy ?_
  refine TriE.loopN h (fun (v2 : Nat) => St.mk [(0, eS 6 eTask a0), (1, .fn (.func 156) [] [.ptr 0 0 0]), (7, vi (a0.length : Int)), (8, vi v2)] [some (.row 1 [.fn (.func 153) [] [.ptr 1 0 0, .ptr 2 0 0]]), some (.row 1 [.fn (.func 87) [] []]), some (.row 1 [.own 3 0 a1.length]), some (.row 1 (List.map vt a1))]) rfl ?_
  clear h
  rintro back v2 h
  dsimp only [slices_IndexFunc_Task_3_L1] at h
  refine sj ?_
  refine jv (vb (decide (v2 < a0.length))) (cy (I0 9 (.bin .lss false (.t 8) (.t 7)))) (n_lss (i := v2) (j := a0.length) rfl rfl) rfl ?_
  refine jp [(0, eS 6 eTask a0), (1, .fn (.func 156) [] [.ptr 0 0 0]), (7, vi (a0.length : Int)), (8, vi v2), (9, vb (decide (v2 < a0.length)))] ?_
  refine TriE.seq ?_
  refine TriE.cond (b := decide (v2 < a0.length)) rfl (fun c1 => ?_) (fun c1 => ?_)
  · have h := cond_t h c1
    refine TriE.skip ?_
    refine TriE.seq ?_
    refine TriE.block ?_
    refine sr [(0, eS 6 eTask a0), (1, .fn (.func 156) [] [.ptr 0 0 0]), (7, vi (a0.length : Int)), (8, vi v2), (5, vi v2)] [some (.row 1 [.fn (.func 153) [] [.ptr 1 0 0, .ptr 2 0 0]]), some (.row 1 [.fn (.func 87) [] []]), some (.row 1 [.own 3 0 a1.length]), some (.row 1 (List.map vt a1))] ?_
    refine sj ?_
    refine rn 3 [(0, eS 6 eTask a0), (1, .fn (.func 156) [] [.ptr 0 0 0]), (7, vi (a0.length : Int)), (8, vi v2), (5, vi v2), (11, .fn (.func 156) [] [.ptr 0 0 0]), (12, eS 6 eTask a0), (13, vi v2)] [some (.row 1 [.fn (.func 153) [] [.ptr 1 0 0, .ptr 2 0 0]]), some (.row 1 [.fn (.func 87) [] []]), some (.row 1 [.own 3 0 a1.length]), some (.row 1 (List.map vt a1))] ?_
    refine jv (.fptr 6 (List.map eTask a0) v2 0) (cy (I0 14 (.iaddr 6 (.t 12) (.t 13)))) (ok_iaddr_m (j := v2) rfl rfl rfl c1) rfl ?_
    refine jv (.agg [vt ((ix a0 v2).Name), vi ((ix a0 v2).Cents), vi ((ix a0 v2).Hours), eS 1 vt ((ix a0 v2).Needs), eS 1 (eS 1 vt) ((ix a0 v2).OneOf), eS 2 ePartCount ((ix a0 v2).Parts)]) (cy (I0 15 (.load true 6 (.t 14)))) (ok_load_fm (v := .agg [vt ((ix a0 v2).Name), vi ((ix a0 v2).Cents), vi ((ix a0 v2).Hours), eS 1 vt ((ix a0 v2).Needs), eS 1 (eS 1 vt) ((ix a0 v2).OneOf), eS 2 ePartCount ((ix a0 v2).Parts)]) rfl c1 rfl) rfl ?_
    obtain ⟨y3, hy3, h⟩ := bind_some h
    refine RegJ.op (Op1.dyn (y' := vb y3) (obx := [some (.row 1 [.fn (.func 153) [] [.ptr 1 0 0, .ptr 2 0 0]]), some (.row 1 [.fn (.func 87) [] []]), some (.row 1 [.own 3 0 a1.length]), some (.row 1 (List.map vt a1))]) (oby := [some (.row 1 [.fn (.func 153) [] [.ptr 1 0 0, .ptr 2 0 0]]), some (.row 1 [.fn (.func 87) [] []]), some (.row 1 [.own 3 0 a1.length]), some (.row 1 (List.map vt a1))]) (ob2 := [some (.row 1 [.fn (.func 153) [] [.ptr 1 0 0, .ptr 2 0 0]]), some (.row 1 [.fn (.func 87) [] []]), some (.row 1 [.own 3 0 a1.length]), some (.row 1 (List.map vt a1))]) _ _ _ (cy (I0 16 (.dyn (.t 11) [(.t 15)]))) rfl rfl (restore_list_order_f2_2_ok n (ix a0 v2) a1 y3 hy3) [0, 1, 2, 3] (by kernel_rfl) (.cons rfl (.cons rfl .nil)) (by kernel_rfl) (by kernel_rfl) (.cons rfl (.cons rfl (.cons rfl (.same (row_ren vt_frz _ _ _) .nil)))) (by kernel_rfl) (.cons rfl (.cons rfl (.cons rfl (.same (row_ren vt_frz _ _ _) .nil)))) (by kernel_rfl)) ?_
    refine jp [(0, eS 6 eTask a0), (1, .fn (.func 156) [] [.ptr 0 0 0]), (7, vi (a0.length : Int)), (8, vi v2), (5, vi v2), (16, vb y3)] ?_
    refine TriE.cond (b := y3) rfl (fun c2 => ?_) (fun c2 => ?_)
    · have h := cond_t h c2
      refine sr [(4, vi v2)] [some (.row 1 [.fn (.func 153) [] [.ptr 1 0 0, .ptr 2 0 0]]), some (.row 1 [.fn (.func 87) [] []]), some (.row 1 [.own 3 0 a1.length]), some (.row 1 (List.map vt a1))] ?_
      refine TriE.ret ?_
      have h := Option.some.inj h
      subst h
      exact DoneS.ret (S' := ⟨[(4, vi v2)], [some (.row 1 [.fn (.func 153) [] [.ptr 1 0 0, .ptr 2 0 0]]), some (.row 1 [.fn (.func 87) [] []]), some (.row 1 [.own 3 0 a1.length]), some (.row 1 (List.map vt a1))]⟩) Sees.refl rfl rfl
    have h := cond_f h c2
    refine TriE.skip ?_
    refine TriE.regJ ?_
    obtain ⟨c3, h⟩ := chk_some h
    refine jv (vi ((v2 + 1 : Nat) : Int)) (cy (I0 18 (.bin .add false (.t 8) (.c (.p (.int .i64 1)))))) (r_addn (i := v2) (j := 1) rfl rfl c3) rfl ?_
    refine jq 1 [(0, eS 6 eTask a0), (1, .fn (.func 156) [] [.ptr 0 0 0]), (7, vi (a0.length : Int)), (8, vi ((v2 + 1 : Nat) : Int))] [some (.row 1 [.fn (.func 153) [] [.ptr 1 0 0, .ptr 2 0 0]]), some (.row 1 [.fn (.func 87) [] []]), some (.row 1 [.own 3 0 a1.length]), some (.row 1 (List.map vt a1))] ?_
    exact Vs.intro sy ⟨(v2 + 1), rfl, h⟩
  have h := cond_f h c1
  refine TriE.exit ?_
  exact Vs.intro sy ⟨(), rfl, h⟩
theorem restore_list_order_ok (n : Nat) (a0 : List Task) (r : (List Str)) (h : restore_list_order n a0 = some r) : FnL Tryz.prog 86 [eS 6 eTask a0, .fn (.func 87) [] []] [] (eS 1 vt r) [] := by
  dsimp only [restore_list_order] at h
  refine FnL.ofS (ts := [4]) Tryz.call86 Tryz.func86 rfl rfl (Nat.le_of_ble_eq_true rfl) (Nat.le_of_ble_eq_true rfl) (fun j h => absurd h (Nat.not_lt_zero j)) ?_
  refine sr [(0, eS 6 eTask a0), (3, .ptr 0 0 0)] [some (.row 1 [.fn (.func 87) [] []])] ?_
  refine sr [(0, eS 6 eTask a0), (3, .ptr 0 0 0), (5, .ptr 1 0 0)] [some (.row 1 [.fn (.func 87) [] []]), some (.row 1 [.emp])] ?_
  refine sr [(0, eS 6 eTask a0), (5, .ptr 1 0 0), (6, .ptr 2 0 0)] [some (.row 1 [.fn (.func 87) [] []]), some (.row 1 [.emp]), some (.row 1 [.fn (.func 153) [] [.ptr 0 0 0, .ptr 1 0 0]])] ?_
  refine TriE.block ?_
  refine TriE.sees (S' := ⟨[(0, eS 6 eTask a0), (5, .ptr 1 0 0), (6, .ptr 2 0 0)], [some (.row 1 [.fn (.func 87) [] []]), some (.row 1 [.own 3 0 ([] : List Str).length]), some (.row 1 [.fn (.func 153) [] [.ptr 0 0 0, .ptr 1 0 0]]), some (.row 1 (List.map vt ([] : List Str)))]⟩) (Sees.trans (Sees.co (fr' := [(0, eS 6 eTask a0), (5, .ptr 1 0 0), (6, .ptr 2 0 0)]) (ob' := [some (.row 1 [.fn (.func 87) [] []]), some (.row 1 [.own 3 0 0]), some (.row 1 [.fn (.func 153) [] [.ptr 0 0 0, .ptr 1 0 0]])]) (.cons .same (.cons .same (.cons .same .nil))) (.same (.cell (.cons .own .nil) rfl (.same .nil))) 1) sy) ?_
  refine TriE.loopN h (fun (v2 : (List Str)) => St.mk [(0, eS 6 eTask a0), (5, .ptr 1 0 0), (6, .ptr 2 0 0)] [some (.row 1 [.fn (.func 87) [] []]), some (.row 1 [.own 3 0 v2.length]), some (.row 1 [.fn (.func 153) [] [.ptr 0 0 0, .ptr 1 0 0]]), some (.row 1 (List.map vt v2))]) rfl ?_
  clear h
  rintro back v2 h
  dsimp only [restore_list_order_L1] at h
  refine TriE.block ?_
  refine sj ?_
  refine rn 2 [(0, eS 6 eTask a0), (5, .ptr 1 0 0), (6, .ptr 2 0 0), (9, eS 6 eTask a0), (10, .fn (.func 156) [] [.ptr 2 0 0])] [some (.row 1 [.fn (.func 87) [] []]), some (.row 1 [.own 3 0 v2.length]), some (.row 1 [.fn (.func 153) [] [.ptr 0 0 0, .ptr 1 0 0]]), some (.row 1 (List.map vt v2))] ?_
  obtain ⟨y3, hy3, h⟩ := bind_some h
  refine RegJ.op (Op1.call (y' := vi y3) (obx := [some (.row 1 [.fn (.func 153) [] [.ptr 0 0 0, .ptr 1 0 0]]), some (.row 1 [.fn (.func 87) [] []]), some (.row 1 [.own 3 0 v2.length]), some (.row 1 (List.map vt v2))]) (oby := [some (.row 1 [.fn (.func 153) [] [.ptr 0 0 0, .ptr 1 0 0]]), some (.row 1 [.fn (.func 87) [] []]), some (.row 1 [.own 3 0 v2.length]), some (.row 1 (List.map vt v2))]) (ob2 := [some (.row 1 [.fn (.func 87) [] []]), some (.row 1 [.own 3 0 v2.length]), some (.row 1 [.fn (.func 153) [] [.ptr 0 0 0, .ptr 1 0 0]]), some (.row 1 (List.map vt v2))]) _ _ (cy (I0 11 (.call 155 [(.t 9), (.t 10)]))) rfl (slices_IndexFunc_Task_3_ok n a0 v2 y3 hy3) [2, 0, 1, 3] (by kernel_rfl) (.cons rfl (.cons rfl (.cons rfl .nil))) (by kernel_rfl) (by kernel_rfl) (.cons rfl (.cons rfl (.cons rfl (.same (row_ren vt_frz _ _ _) .nil)))) (by kernel_rfl) (.cons rfl (.cons rfl (.cons rfl (.same (row_ren vt_frz _ _ _) .nil)))) (by kernel_rfl)) ?_
  refine jq 1 [(0, eS 6 eTask a0), (5, .ptr 1 0 0), (6, .ptr 2 0 0), (7, vi y3)] [some (.row 1 [.fn (.func 87) [] []]), some (.row 1 [.own 3 0 v2.length]), some (.row 1 [.fn (.func 153) [] [.ptr 0 0 0, .ptr 1 0 0]]), some (.row 1 (List.map vt v2))] ?_
  refine TriE.seq ?_
  refine sr [(0, eS 6 eTask a0), (5, .ptr 1 0 0), (6, .ptr 2 0 0), (7, vi y3), (13, vb (decide (y3 < (0 : Int))))] [some (.row 1 [.fn (.func 87) [] []]), some (.row 1 [.own 3 0 v2.length]), some (.row 1 [.fn (.func 153) [] [.ptr 0 0 0, .ptr 1 0 0]]), some (.row 1 (List.map vt v2))] ?_
  refine TriE.cond (b := decide (y3 < (0 : Int))) rfl (fun c1 => ?_) (fun c1 => ?_)
  · have h := cond_t h c1
    refine sr [(4, .own 3 0 v2.length)] [some (.row 1 [.fn (.func 87) [] []]), some (.row 1 [.own 3 0 v2.length]), some (.row 1 [.fn (.func 153) [] [.ptr 0 0 0, .ptr 1 0 0]]), some (.row 1 (List.map vt v2))] ?_
    refine TriE.ret ?_
    have h := Option.some.inj h
    subst h
    exact DoneS.ret (S' := ⟨[(4, eS 1 vt v2)], []⟩) (Sees.trans (Sees.freeze 3 (fr' := [(4, eS 1 vt v2)]) (ob' := [some (.row 1 [.fn (.func 87) [] []]), some (.row 1 [.own 3 0 v2.length]), some (.row 1 [.fn (.func 153) [] [.ptr 0 0 0, .ptr 1 0 0]]), none]) rfl (frz_row vt_frzE _) (.cons (frz_full rfl) .nil) rfl) (sc [] (by decide) (by kernel_rfl) ObRen.nil rfl rfl)) rfl rfl
  have h := cond_f h c1
  refine TriE.skip ?_
  refine TriE.sees (Sees.less (fr' := [(0, eS 6 eTask a0), (5, .ptr 1 0 0), (6, .ptr 2 0 0), (7, vi y3)]) (.cons rfl (.cons rfl (.cons rfl (.cons rfl .nil))))) ?_
  refine TriE.draw (by kernel_rfl) ?_
  refine RegD.run 3 [(17, vi y3), (16, eS 6 eTask a0), (15, .own 3 0 v2.length), (0, eS 6 eTask a0), (5, .ptr 1 0 0), (6, .ptr 2 0 0), (7, vi y3)] [some (.row 1 [.fn (.func 87) [] []]), some (.row 1 [.own 3 0 v2.length]), some (.row 1 [.fn (.func 153) [] [.ptr 0 0 0, .ptr 1 0 0]]), some (.row 1 (List.map vt v2)), none, none, none] (by kernel_rfl) ?_
  obtain ⟨c2, h⟩ := chk_some h
  refine dv (.fptr 6 (List.map eTask a0) y3.toNat 0) (cy (I0 18 (.iaddr 6 (.t 16) (.t 17)))) (ok_iaddr_m (j := y3.toNat) rfl rfl (inB_to c2) (inB_lt c2)) rfl ?_
  refine RegD.run 1 [(19, .fptr 6 (List.map eTask a0) y3.toNat 0), (18, .fptr 6 (List.map eTask a0) y3.toNat 0), (17, vi y3), (16, eS 6 eTask a0), (15, .own 3 0 v2.length), (0, eS 6 eTask a0), (5, .ptr 1 0 0), (6, .ptr 2 0 0), (7, vi y3)] [some (.row 1 [.fn (.func 87) [] []]), some (.row 1 [.own 3 0 v2.length]), some (.row 1 [.fn (.func 153) [] [.ptr 0 0 0, .ptr 1 0 0]]), some (.row 1 (List.map vt v2)), none, none, none, none, none] (by kernel_rfl) ?_
  obtain ⟨c3, h⟩ := chk_some h
  refine dv (vt ((ix a0 y3.toNat).Name)) (cy (I0 20 (.load false 1 (.t 19)))) (ok_load_fm (v := vt ((ix a0 y3.toNat).Name)) rfl c3 rfl) rfl ?_
  refine RegD.run 1 [(21, .own 10 0 1), (20, vt ((ix a0 y3.toNat).Name)), (19, .fptr 6 (List.map eTask a0) y3.toNat 0), (18, .fptr 6 (List.map eTask a0) y3.toNat 0), (17, vi y3), (16, eS 6 eTask a0), (15, .own 3 0 v2.length), (0, eS 6 eTask a0), (5, .ptr 1 0 0), (6, .ptr 2 0 0), (7, vi y3)] [some (.row 1 [.fn (.func 87) [] []]), some (.row 1 [.own 3 0 v2.length]), some (.row 1 [.fn (.func 153) [] [.ptr 0 0 0, .ptr 1 0 0]]), some (.row 1 (List.map vt v2)), none, none, none, none, none, none, some (.row 1 [vt ((ix a0 y3.toNat).Name)])] (by kernel_rfl) ?_
  obtain ⟨c4, h⟩ := chk_some h
  refine de (.own 11 0 ((v2 ++ ([(ix a0 y3.toNat).Name] : List Str)).length)) [some (.row 1 [.fn (.func 87) [] []]), some (.row 1 [.own 3 0 v2.length]), some (.row 1 [.fn (.func 153) [] [.ptr 0 0 0, .ptr 1 0 0]]), none, none, none, none, none, none, none, some (.row 1 [vt ((ix a0 y3.toNat).Name)]), some (.row 1 (List.map vt (v2 ++ ([(ix a0 y3.toNat).Name] : List Str))))] (cy (I0 22 (.app 1 16 (.t 15) (.t 21)))) (ok_app_own (l := v2) (l2 := ([(ix a0 y3.toNat).Name] : List Str)) (e := vt) (u := .own 10 0 1) rfl rfl rfl rfl rfl c4) rfl rfl rfl ?_
  refine RegD.run 1 [(22, .own 11 0 ((v2 ++ ([(ix a0 y3.toNat).Name] : List Str)).length)), (21, .own 10 0 1), (20, vt ((ix a0 y3.toNat).Name)), (19, .fptr 6 (List.map eTask a0) y3.toNat 0), (18, .fptr 6 (List.map eTask a0) y3.toNat 0), (17, vi y3), (16, eS 6 eTask a0), (15, .own 3 0 v2.length), (0, eS 6 eTask a0), (5, .ptr 1 0 0), (6, .ptr 2 0 0), (7, vi y3)] [some (.row 1 [.fn (.func 87) [] []]), some (.row 1 [.own 11 0 ((v2 ++ ([(ix a0 y3.toNat).Name] : List Str)).length)]), some (.row 1 [.fn (.func 153) [] [.ptr 0 0 0, .ptr 1 0 0]]), none, none, none, none, none, none, none, some (.row 1 [vt ((ix a0 y3.toNat).Name)]), some (.row 1 (List.map vt (v2 ++ ([(ix a0 y3.toNat).Name] : List Str)))), none] (by kernel_rfl) ?_
  refine RegD.done rfl (by kernel_rfl) (S' := ⟨[(0, eS 6 eTask a0), (5, .ptr 1 0 0), (6, .ptr 2 0 0)], [some (.row 1 [.fn (.func 87) [] []]), some (.row 1 [.own 3 0 ((v2 ++ ([(ix a0 y3.toNat).Name] : List Str)).length)]), some (.row 1 [.fn (.func 153) [] [.ptr 0 0 0, .ptr 1 0 0]]), some (.row 1 (List.map vt (v2 ++ ([(ix a0 y3.toNat).Name] : List Str))))]⟩) (sc [0, 1, 2, 11] (by decide) (by kernel_rfl) (.cons rfl (.cons rfl (.cons rfl (obRen_row vt_frz rfl .nil)))) rfl rfl) ?_
  exact Vs.intro Sees.refl ⟨(v2 ++ ([(ix a0 y3.toNat).Name] : List Str)), rfl, h⟩
theorem restore_CheckTasks_ok (n : Nat) (a0 : List Task) (r : Int) (h : restore_CheckTasks n a0 = some r) : FnL Tryz.prog 19 [eS 6 eTask a0] [] (vi r) [] := by
  dsimp only [restore_CheckTasks] at h
  refine FnL.ofS (ts := [2]) Tryz.call19 Tryz.func19 rfl rfl (Nat.le_of_ble_eq_true rfl) (Nat.le_of_ble_eq_true rfl) (fun j h => absurd h (Nat.not_lt_zero j)) ?_
  refine sr [(0, eS 6 eTask a0)] [] ?_
  refine TriE.seq ?_
  refine sj ?_
  refine rn 1 [(0, eS 6 eTask a0), (5, eS 6 eTask a0)] [] ?_
  refine jv (vi (a0.length : Int)) (cy (I0 6 (.len 0 (.t 5)))) (ok_len_m rfl) rfl ?_
  refine jv (vb (decide (60 < a0.length))) (cy (I0 7 (.bin .gtr false (.t 6) (.c (.p (.int .i64 60)))))) (n_gtr (i := a0.length) (j := 60) rfl rfl) rfl ?_
  refine jp [(0, eS 6 eTask a0), (7, vb (decide (60 < a0.length)))] ?_
  refine TriE.cond (b := decide (60 < a0.length)) rfl (fun c1 => ?_) (fun c1 => ?_)
  · have h := cond_t h c1
    refine sr [(2, vi 8)] [] ?_
    refine TriE.ret ?_
    have h := Option.some.inj h
    subst h
    exact DoneS.ret (S' := ⟨[(2, vi 8)], []⟩) Sees.refl rfl rfl
  have h := cond_f h c1
  refine TriE.skip ?_
  refine TriE.seqK h (fun (_ : Unit) => St.mk [(0, eS 6 eTask a0)] []) ?_ ?_
  · rintro ⟨⟩ h
    refine TriE.seq ?_
    refine sj ?_
    refine rn 1 [(0, eS 6 eTask a0), (20, eS 6 eTask a0)] [] ?_
    obtain ⟨y4, hy4, h⟩ := bind_some h
    refine RegJ.op (Op1.call (y' := eS 1 vt y4) (obx := []) (oby := []) (ob2 := []) _ _ (cy (I0 21 (.call 86 [(.t 20), (.c (.fn (.func 87) [] []))]))) rfl (restore_list_order_ok n a0 y4 hy4) [] (by kernel_rfl) (.cons rfl (.cons rfl (.cons rfl .nil))) (by kernel_rfl) (by kernel_rfl) ObsRen.nil (by kernel_rfl) ObsRen.nil (by kernel_rfl)) ?_
    refine jv (vi (y4.length : Int)) (cy (I0 22 (.len 0 (.t 21)))) (ok_len_m rfl) rfl ?_
    refine rn 1 [(22, vi (y4.length : Int)), (23, eS 6 eTask a0)] [] ?_
    refine jv (vi (a0.length : Int)) (cy (I0 24 (.len 0 (.t 23)))) (ok_len_m rfl) rfl ?_
    refine jv (vb (decide (y4.length < a0.length))) (cy (I0 25 (.bin .lss false (.t 22) (.t 24)))) (n_lss (i := y4.length) (j := a0.length) rfl rfl) rfl ?_
    refine jp [(25, vb (decide (y4.length < a0.length)))] ?_
    refine TriE.cond (b := decide (y4.length < a0.length)) rfl (fun c5 => ?_) (fun c5 => ?_)
    · have h := cond_t h c5
      refine sr [(2, vi 21)] [] ?_
      refine TriE.ret ?_
      have h := Option.some.inj h
      subst h
      exact DoneS.ret (S' := ⟨[(2, vi 21)], []⟩) Sees.refl rfl rfl
    have h := cond_f h c5
    refine TriE.skip ?_
    refine sr [(2, vi 0)] [] ?_
    refine TriE.ret ?_
    have h := Option.some.inj h
    subst h
    exact DoneS.ret (S' := ⟨[(2, vi 0)], []⟩) Sees.refl rfl rfl
  intro k1 h
  refine sj ?_
  refine rn 1 [(0, eS 6 eTask a0), (8, eS 6 eTask a0)] [] ?_
  refine jv (vi (a0.length : Int)) (cy (I0 9 (.len 0 (.t 8)))) (ok_len_m rfl) rfl ?_
  refine jq 1 [(0, eS 6 eTask a0), (9, vi (a0.length : Int)), (10, vi 0)] [] ?_
  refine TriE.block ?_
  refine TriE.sees (S' := ⟨[(0, eS 6 eTask a0), (9, vi (a0.length : Int)), (10, vi 0)], []⟩) sy ?_
  refine TriE.loopN h (fun (v2 : Nat) => St.mk [(0, eS 6 eTask a0), (9, vi (a0.length : Int)), (10, vi v2)] []) rfl ?_
  clear h
  rintro back v2 h
  dsimp only [restore_CheckTasks_L1] at h
  refine sj ?_
  refine jv (vb (decide (v2 < a0.length))) (cy (I0 11 (.bin .lss false (.t 10) (.t 9)))) (n_lss (i := v2) (j := a0.length) rfl rfl) rfl ?_
  refine jp [(0, eS 6 eTask a0), (9, vi (a0.length : Int)), (10, vi v2), (11, vb (decide (v2 < a0.length)))] ?_
  refine TriE.seq ?_
  refine TriE.cond (b := decide (v2 < a0.length)) rfl (fun c2 => ?_) (fun c2 => ?_)
  · have h := cond_t h c2
    refine TriE.skip ?_
    refine TriE.seq ?_
    refine TriE.block ?_
    refine sr [(0, eS 6 eTask a0), (9, vi (a0.length : Int)), (10, vi v2), (3, vi v2)] [] ?_
    refine sj ?_
    refine rn 2 [(0, eS 6 eTask a0), (9, vi (a0.length : Int)), (10, vi v2), (13, eS 6 eTask a0), (14, vi v2)] [] ?_
    obtain ⟨y3, hy3, h⟩ := bind_some h
    refine RegJ.op (Op1.call (y' := vi y3) (obx := []) (oby := []) (ob2 := []) _ _ (cy (I0 15 (.call 85 [(.t 13), (.t 14)]))) rfl (restore_list_checkTask_ok n a0 (v2 : Int) y3 hy3) [] (by kernel_rfl) (.cons rfl (.cons rfl (.cons rfl .nil))) (by kernel_rfl) (by kernel_rfl) ObsRen.nil (by kernel_rfl) ObsRen.nil (by kernel_rfl)) ?_
    refine jq 1 [(0, eS 6 eTask a0), (9, vi (a0.length : Int)), (10, vi v2), (4, vi y3)] [] ?_
    refine sr [(0, eS 6 eTask a0), (9, vi (a0.length : Int)), (10, vi v2), (4, vi y3), (17, vb (y3 != (0 : Int)))] [] ?_
    refine TriE.cond (b := (y3 != (0 : Int))) rfl (fun c3 => ?_) (fun c3 => ?_)
    · have h := cond_t h c3
      refine sr [(2, vi y3)] [] ?_
      refine TriE.ret ?_
      have h := Option.some.inj h
      subst h
      exact DoneS.ret (S' := ⟨[(2, vi y3)], []⟩) Sees.refl rfl rfl
    have h := cond_f h c3
    refine TriE.skip ?_
    refine TriE.regJ ?_
    obtain ⟨c4, h⟩ := chk_some h
    refine jv (vi ((v2 + 1 : Nat) : Int)) (cy (I0 19 (.bin .add false (.t 10) (.c (.p (.int .i64 1)))))) (r_addn (i := v2) (j := 1) rfl rfl c4) rfl ?_
    refine jq 1 [(0, eS 6 eTask a0), (9, vi (a0.length : Int)), (10, vi ((v2 + 1 : Nat) : Int))] [] ?_
    exact Vs.intro sy ⟨(v2 + 1), rfl, h⟩
  have h := cond_f h c2
  refine TriE.exit ?_
  exact Vs.intro sy ⟨(), rfl, h⟩
theorem agraffebase_isLetter_ok (n : Nat) (a0 : Int) (r : Unit) (h : agraffebase_isLetter n a0 = some r) : FnL Tryz.prog 159 [vk .u8 a0] [] (vb (((decide ((97 : Int) ≤ a0)) && (decide (a0 ≤ (122 : Int)))) || ((decide ((65 : Int) ≤ a0)) && (decide (a0 ≤ (90 : Int)))))) [] := by
  dsimp only [agraffebase_isLetter] at h
  refine FnL.ofS (ts := [2]) Tryz.call159 Tryz.func159 rfl rfl (Nat.le_of_ble_eq_true rfl) (Nat.le_of_ble_eq_true rfl) (fun j h => absurd h (Nat.not_lt_zero j)) ?_
  refine sr [(0, vk .u8 a0)] [] ?_
  refine sj ?_
  refine rn 3 [(0, vk .u8 a0), (5, vb (decide ((97 : Int) ≤ a0)))] [] ?_
  refine RegJ.op (Op1.valk (v := vk .u8 a0) _ _ (cy (IG 6 (.mov (.t 0)) 5 true)) rfl (by kernel_rfl) (fun hg => (.cons rfl .nil))) ?_
  refine RegJ.op (Op1.valk (v := vb (decide (a0 ≤ (122 : Int)))) _ _ (cy (IG 7 (.bin .leq false (.t 6) (.c (.p (.int .u8 122)))) 5 true)) rfl (by kernel_rfl) (fun hg => (.cons hg (.cons rfl .nil)))) ?_
  refine RegJ.op (Op1.and (cy (I0 8 (.pick (.t 5) (.t 7) (.c (.p (.bool false)))))) rfl rfl (by first | exact hokA1 | exact hokA0 | simp)) ?_
  refine rn 1 [(0, vk .u8 a0), (9, vb ((decide ((97 : Int) ≤ a0)) && (decide (a0 ≤ (122 : Int)))))] [] ?_
  refine RegJ.op (Op1.valk (v := vk .u8 a0) _ _ (cy (IG 10 (.mov (.t 0)) 9 false)) rfl (by kernel_rfl) (fun hg => (.cons rfl .nil))) ?_
  refine RegJ.op (Op1.valk (v := vb (decide ((65 : Int) ≤ a0))) _ _ (cy (IG 11 (.bin .geq false (.t 10) (.c (.p (.int .u8 65)))) 9 false)) rfl (by kernel_rfl) (fun hg => (.cons hg (.cons rfl .nil)))) ?_
  refine RegJ.op (Op1.valk (v := vb (decide ((65 : Int) ≤ a0))) _ _ (cy (IG 12 (.mov (.t 11)) 9 false)) rfl (by kernel_rfl) (fun hg => (.cons hg .nil))) ?_
  refine RegJ.op (Op1.valk (v := vk .u8 a0) _ _ (cy (IG 13 (.mov (.t 0)) 12 true)) rfl (by kernel_rfl) (fun hg => (.cons rfl .nil))) ?_
  refine RegJ.op (Op1.valk (v := vb (decide (a0 ≤ (90 : Int)))) _ _ (cy (IG 14 (.bin .leq false (.t 13) (.c (.p (.int .u8 90)))) 12 true)) rfl (by kernel_rfl) (fun hg => (.cons hg (.cons rfl .nil)))) ?_
  refine RegJ.op (Op1.andg (g := !((decide ((97 : Int) ≤ a0)) && (decide (a0 ≤ (122 : Int))))) (cy (IG 15 (.pick (.t 12) (.t 14) (.c (.p (.bool false)))) 9 false)) rfl rfl rfl (fun hg => by first | exact hokA2 hg | exact hokA3 hg | exact hokA1 | exact hokA0 | (rw [hg]; simp) | simp_all)) ?_
  refine RegJ.op (Op1.or (cy (I0 16 (.pick (.t 9) (.c (.p (.bool true))) (.t 15)))) rfl rfl (by first | exact hokO1 | exact hokO0 | simp)) ?_
  refine jq 1 [(2, vb (((decide ((97 : Int) ≤ a0)) && (decide (a0 ≤ (122 : Int)))) || ((decide ((65 : Int) ≤ a0)) && (decide (a0 ≤ (90 : Int))))))] [] ?_
  refine TriE.ret ?_
  have h := Option.some.inj h
  subst h
  exact DoneS.ret (S' := ⟨[(2, vb (((decide ((97 : Int) ≤ a0)) && (decide (a0 ≤ (122 : Int)))) || ((decide ((65 : Int) ≤ a0)) && (decide (a0 ≤ (90 : Int))))))], []⟩) Sees.refl rfl rfl
theorem agraffebase_isDigit_ok (n : Nat) (a0 : Int) (r : Unit) (h : agraffebase_isDigit n a0 = some r) : FnL Tryz.prog 160 [vk .u8 a0] [] (vb ((decide ((48 : Int) ≤ a0)) && (decide (a0 ≤ (57 : Int))))) [] := by
  dsimp only [agraffebase_isDigit] at h
  refine FnL.ofS (ts := [2]) Tryz.call160 Tryz.func160 rfl rfl (Nat.le_of_ble_eq_true rfl) (Nat.le_of_ble_eq_true rfl) (fun j h => absurd h (Nat.not_lt_zero j)) ?_
  refine sr [(0, vk .u8 a0)] [] ?_
  refine sj ?_
  refine rn 3 [(0, vk .u8 a0), (5, vb (decide ((48 : Int) ≤ a0)))] [] ?_
  refine RegJ.op (Op1.valk (v := vk .u8 a0) _ _ (cy (IG 6 (.mov (.t 0)) 5 true)) rfl (by kernel_rfl) (fun hg => (.cons rfl .nil))) ?_
  refine RegJ.op (Op1.valk (v := vb (decide (a0 ≤ (57 : Int)))) _ _ (cy (IG 7 (.bin .leq false (.t 6) (.c (.p (.int .u8 57)))) 5 true)) rfl (by kernel_rfl) (fun hg => (.cons hg (.cons rfl .nil)))) ?_
  refine RegJ.op (Op1.and (cy (I0 8 (.pick (.t 5) (.t 7) (.c (.p (.bool false)))))) rfl rfl (by first | exact hokA1 | exact hokA0 | simp)) ?_
  refine jq 1 [(2, vb ((decide ((48 : Int) ≤ a0)) && (decide (a0 ≤ (57 : Int)))))] [] ?_
  refine TriE.ret ?_
  have h := Option.some.inj h
  subst h
  exact DoneS.ret (S' := ⟨[(2, vb ((decide ((48 : Int) ≤ a0)) && (decide (a0 ≤ (57 : Int)))))], []⟩) Sees.refl rfl rfl
theorem agraffebase_IsName_ok (n : Nat) (a0 : Str) (r : Bool) (h : agraffebase_IsName n a0 = some r) : FnL Tryz.prog 92 [vt a0] [] (vb r) [] := by
  dsimp only [agraffebase_IsName] at h
  refine FnL.ofS (ts := [2]) Tryz.call92 Tryz.func92 rfl rfl (Nat.le_of_ble_eq_true rfl) (Nat.le_of_ble_eq_true rfl) (fun j h => absurd h (Nat.not_lt_zero j)) ?_
  refine sr [(0, vt a0)] [] ?_
  refine TriE.seq ?_
  refine sj ?_
  refine rn 1 [(0, vt a0), (4, vt a0)] [] ?_
  refine jv (vi (a0.length : Int)) (cy (I0 5 (.len 1 (.t 4)))) (ok_len_t rfl) rfl ?_
  refine jv (vb (decide (a0.length = 0))) (cy (I0 6 (.bin .eql false (.t 5) (.c (.p (.int .i64 0)))))) (n_eql (i := a0.length) (j := 0) rfl rfl) rfl ?_
  refine rn 1 [(0, vt a0), (7, vb (decide (a0.length = 0)))] [] ?_
  refine RegJ.op (Op1.valk (v := vt a0) _ _ (cy (IG 8 (.mov (.t 0)) 7 false)) rfl (by kernel_rfl) (fun hg => (.cons rfl .nil))) ?_
  refine RegJ.op (Op1.valg (v := vi (a0.length : Int)) _ _ (cy (IG 9 (.len 1 (.t 8)) 7 false)) rfl (fun hg => (ok_len_t rfl)) (fun hg => (.cons hg .nil))) ?_
  refine RegJ.op (Op1.valg (v := vb (decide (12 < a0.length))) _ _ (cy (IG 10 (.bin .gtr false (.t 9) (.c (.p (.int .i64 12)))) 7 false)) rfl (fun hg => (n_gtr (i := a0.length) (j := 12) rfl rfl)) (fun hg => (.cons hg (.cons rfl .nil)))) ?_
  refine RegJ.op (Op1.or (cy (I0 11 (.pick (.t 7) (.c (.p (.bool true))) (.t 10)))) rfl rfl (by first | exact hokO1 | exact hokO0 | simp)) ?_
  refine rn 1 [(0, vt a0), (12, vb ((decide (a0.length = 0)) || (decide (12 < a0.length))))] [] ?_
  refine RegJ.op (Op1.valk (v := vt a0) _ _ (cy (IG 13 (.mov (.t 0)) 12 false)) rfl (by kernel_rfl) (fun hg => (.cons rfl .nil))) ?_
  obtain ⟨c1, h⟩ := chk_some h
  refine RegJ.op (Op1.valg (v := vk .u8 (((List.getD a0 0 0).toNat : Nat) : Int)) _ _ (cy (IG 14 (.sidx (.t 13) (.c (.p (.int .i64 0)))) 12 false)) rfl (fun hg => (ok_sidx_t (j := 0) rfl rfl rfl (gor c1 hg))) (fun hg => (.cons hg (.cons rfl .nil)))) ?_
  obtain ⟨y1, hy1, h⟩ := bind_some h
  refine RegJ.op (Op1.callg (g := !((decide (a0.length = 0)) || (decide (12 < a0.length)))) (y' := vb (((decide ((97 : Int) ≤ (((List.getD a0 0 0).toNat : Nat) : Int))) && (decide ((((List.getD a0 0 0).toNat : Nat) : Int) ≤ (122 : Int)))) || ((decide ((65 : Int) ≤ (((List.getD a0 0 0).toNat : Nat) : Int))) && (decide ((((List.getD a0 0 0).toNat : Nat) : Int) ≤ (90 : Int)))))) (obx := []) _ _ (cy (IG 15 (.call 159 [(.t 14)]) 12 false)) rfl (fun hg => agraffebase_isLetter_ok n (((List.getD a0 0 0).toNat : Nat) : Int) y1 (gcall_some hy1 hg)) [] (fun hg => by kernel_rfl) (fun hg => (.cons rfl (.cons hg .nil))) (by kernel_rfl) (by kernel_rfl) ObsRen.nil (by kernel_rfl) (by kernel_rfl)) ?_
  refine RegJ.op (Op1.valk (v := vb (!(((decide ((97 : Int) ≤ (((List.getD a0 0 0).toNat : Nat) : Int))) && (decide ((((List.getD a0 0 0).toNat : Nat) : Int) ≤ (122 : Int)))) || ((decide ((65 : Int) ≤ (((List.getD a0 0 0).toNat : Nat) : Int))) && (decide ((((List.getD a0 0 0).toNat : Nat) : Int) ≤ (90 : Int))))))) _ _ (cy (IG 16 (.un .not (.t 15)) 12 false)) rfl (by kernel_rfl) (fun hg => (.cons hg .nil))) ?_
  refine RegJ.op (Op1.or (cy (I0 17 (.pick (.t 12) (.c (.p (.bool true))) (.t 16)))) rfl rfl (by first | exact hokO1 | exact hokO0 | simp)) ?_
  refine jp [(0, vt a0), (17, vb (((decide (a0.length = 0)) || (decide (12 < a0.length))) || (!(((decide ((97 : Int) ≤ (((List.getD a0 0 0).toNat : Nat) : Int))) && (decide ((((List.getD a0 0 0).toNat : Nat) : Int) ≤ (122 : Int)))) || ((decide ((65 : Int) ≤ (((List.getD a0 0 0).toNat : Nat) : Int))) && (decide ((((List.getD a0 0 0).toNat : Nat) : Int) ≤ (90 : Int))))))))] ?_
  refine TriE.cond (b := ((decide (a0.length = 0)) || (decide (12 < a0.length))) || (!(((decide ((97 : Int) ≤ (((List.getD a0 0 0).toNat : Nat) : Int))) && (decide ((((List.getD a0 0 0).toNat : Nat) : Int) ≤ (122 : Int)))) || ((decide ((65 : Int) ≤ (((List.getD a0 0 0).toNat : Nat) : Int))) && (decide ((((List.getD a0 0 0).toNat : Nat) : Int) ≤ (90 : Int))))))) rfl (fun c2 => ?_) (fun c2 => ?_)
  · have h := cond_t h c2
    refine sr [(2, vb false)] [] ?_
    refine TriE.ret ?_
    have h := Option.some.inj h
    subst h
    exact DoneS.ret (S' := ⟨[(2, vb false)], []⟩) Sees.refl rfl rfl
  have h := cond_f h c2
  refine TriE.skip ?_
  refine TriE.seqK h (fun (_ : Unit) => St.mk [] []) ?_ ?_
  · rintro ⟨⟩ h
    refine sr [(2, vb true)] [] ?_
    refine TriE.ret ?_
    have h := Option.some.inj h
    subst h
    exact DoneS.ret (S' := ⟨[(2, vb true)], []⟩) Sees.refl rfl rfl
  intro k1 h
  refine sr [(0, vt a0), (3, vi 0)] [] ?_
  refine TriE.block ?_
  refine TriE.sees (S' := ⟨[(0, vt a0), (3, vi 0)], []⟩) sy ?_
  refine TriE.loopN h (fun (v4 : Nat) => St.mk [(0, vt a0), (3, vi v4)] []) rfl ?_
  clear h
  rintro back v4 h
  dsimp only [agraffebase_IsName_L1] at h
  refine TriE.seq ?_
  refine sj ?_
  refine rn 2 [(0, vt a0), (3, vi v4), (18, vi v4), (19, vt a0)] [] ?_
  refine jv (vi (a0.length : Int)) (cy (I0 20 (.len 1 (.t 19)))) (ok_len_t rfl) rfl ?_
  refine jv (vb (decide (v4 < a0.length))) (cy (I0 21 (.bin .lss false (.t 18) (.t 20)))) (n_lss (i := v4) (j := a0.length) rfl rfl) rfl ?_
  refine jp [(0, vt a0), (3, vi v4), (21, vb (decide (v4 < a0.length)))] ?_
  refine TriE.cond (b := decide (v4 < a0.length)) rfl (fun c3 => ?_) (fun c3 => ?_)
  · have h := cond_t h c3
    refine TriE.skip ?_
    refine TriE.seq ?_
    refine TriE.block ?_
    refine sj ?_
    refine rn 2 [(0, vt a0), (3, vi v4), (24, vt a0), (25, vi v4)] [] ?_
    refine jv (vk .u8 (((List.getD a0 v4 0).toNat : Nat) : Int)) (cy (I0 26 (.sidx (.t 24) (.t 25)))) (ok_sidx_t (j := v4) rfl rfl rfl c3) rfl ?_
    obtain ⟨y5, hy5, h⟩ := bind_some h
    refine RegJ.op (Op1.call (y' := vb (((decide ((97 : Int) ≤ (((List.getD a0 v4 0).toNat : Nat) : Int))) && (decide ((((List.getD a0 v4 0).toNat : Nat) : Int) ≤ (122 : Int)))) || ((decide ((65 : Int) ≤ (((List.getD a0 v4 0).toNat : Nat) : Int))) && (decide ((((List.getD a0 v4 0).toNat : Nat) : Int) ≤ (90 : Int)))))) (obx := []) (oby := []) (ob2 := []) _ _ (cy (I0 27 (.call 159 [(.t 26)]))) rfl (agraffebase_isLetter_ok n (((List.getD a0 v4 0).toNat : Nat) : Int) y5 hy5) [] (by kernel_rfl) (.cons rfl (.cons rfl .nil)) (by kernel_rfl) (by kernel_rfl) ObsRen.nil (by kernel_rfl) ObsRen.nil (by kernel_rfl)) ?_
    refine rn 2 [(0, vt a0), (3, vi v4), (29, vb (!(((decide ((97 : Int) ≤ (((List.getD a0 v4 0).toNat : Nat) : Int))) && (decide ((((List.getD a0 v4 0).toNat : Nat) : Int) ≤ (122 : Int)))) || ((decide ((65 : Int) ≤ (((List.getD a0 v4 0).toNat : Nat) : Int))) && (decide ((((List.getD a0 v4 0).toNat : Nat) : Int) ≤ (90 : Int)))))))] [] ?_
    refine RegJ.op (Op1.valk (v := vt a0) _ _ (cy (IG 30 (.mov (.t 0)) 29 true)) rfl (by kernel_rfl) (fun hg => (.cons rfl .nil))) ?_
    refine RegJ.op (Op1.valk (v := vi v4) _ _ (cy (IG 31 (.mov (.t 3)) 29 true)) rfl (by kernel_rfl) (fun hg => (.cons rfl .nil))) ?_
    refine RegJ.op (Op1.valg (v := vk .u8 (((List.getD a0 v4 0).toNat : Nat) : Int)) _ _ (cy (IG 32 (.sidx (.t 30) (.t 31)) 29 true)) rfl (fun hg => (ok_sidx_t (j := v4) rfl rfl rfl c3)) (fun hg => (.cons hg (.cons hg .nil)))) ?_
    obtain ⟨y6, hy6, h⟩ := bind_some h
    refine RegJ.op (Op1.callg (g := !(((decide ((97 : Int) ≤ (((List.getD a0 v4 0).toNat : Nat) : Int))) && (decide ((((List.getD a0 v4 0).toNat : Nat) : Int) ≤ (122 : Int)))) || ((decide ((65 : Int) ≤ (((List.getD a0 v4 0).toNat : Nat) : Int))) && (decide ((((List.getD a0 v4 0).toNat : Nat) : Int) ≤ (90 : Int)))))) (y' := vb ((decide ((48 : Int) ≤ (((List.getD a0 v4 0).toNat : Nat) : Int))) && (decide ((((List.getD a0 v4 0).toNat : Nat) : Int) ≤ (57 : Int))))) (obx := []) _ _ (cy (IG 33 (.call 160 [(.t 32)]) 29 true)) rfl (fun hg => agraffebase_isDigit_ok n (((List.getD a0 v4 0).toNat : Nat) : Int) y6 (gcall_some hy6 hg)) [] (fun hg => by kernel_rfl) (fun hg => (.cons rfl (.cons hg .nil))) (by kernel_rfl) (by kernel_rfl) ObsRen.nil (by kernel_rfl) (by kernel_rfl)) ?_
    refine RegJ.op (Op1.valk (v := vb (!((decide ((48 : Int) ≤ (((List.getD a0 v4 0).toNat : Nat) : Int))) && (decide ((((List.getD a0 v4 0).toNat : Nat) : Int) ≤ (57 : Int)))))) _ _ (cy (IG 34 (.un .not (.t 33)) 29 true)) rfl (by kernel_rfl) (fun hg => (.cons hg .nil))) ?_
    refine RegJ.op (Op1.and (cy (I0 35 (.pick (.t 29) (.t 34) (.c (.p (.bool false)))))) rfl rfl (by first | exact hokA1 | exact hokA0 | simp)) ?_
    refine rn 1 [(0, vt a0), (3, vi v4), (30, .cond (!(((decide ((97 : Int) ≤ (((List.getD a0 v4 0).toNat : Nat) : Int))) && (decide ((((List.getD a0 v4 0).toNat : Nat) : Int) ≤ (122 : Int)))) || ((decide ((65 : Int) ≤ (((List.getD a0 v4 0).toNat : Nat) : Int))) && (decide ((((List.getD a0 v4 0).toNat : Nat) : Int) ≤ (90 : Int)))))) (vt a0)), (31, .cond (!(((decide ((97 : Int) ≤ (((List.getD a0 v4 0).toNat : Nat) : Int))) && (decide ((((List.getD a0 v4 0).toNat : Nat) : Int) ≤ (122 : Int)))) || ((decide ((65 : Int) ≤ (((List.getD a0 v4 0).toNat : Nat) : Int))) && (decide ((((List.getD a0 v4 0).toNat : Nat) : Int) ≤ (90 : Int)))))) (vi v4)), (32, .cond (!(((decide ((97 : Int) ≤ (((List.getD a0 v4 0).toNat : Nat) : Int))) && (decide ((((List.getD a0 v4 0).toNat : Nat) : Int) ≤ (122 : Int)))) || ((decide ((65 : Int) ≤ (((List.getD a0 v4 0).toNat : Nat) : Int))) && (decide ((((List.getD a0 v4 0).toNat : Nat) : Int) ≤ (90 : Int)))))) (vk .u8 (((List.getD a0 v4 0).toNat : Nat) : Int))), (33, .cond (!(((decide ((97 : Int) ≤ (((List.getD a0 v4 0).toNat : Nat) : Int))) && (decide ((((List.getD a0 v4 0).toNat : Nat) : Int) ≤ (122 : Int)))) || ((decide ((65 : Int) ≤ (((List.getD a0 v4 0).toNat : Nat) : Int))) && (decide ((((List.getD a0 v4 0).toNat : Nat) : Int) ≤ (90 : Int)))))) (vb ((decide ((48 : Int) ≤ (((List.getD a0 v4 0).toNat : Nat) : Int))) && (decide ((((List.getD a0 v4 0).toNat : Nat) : Int) ≤ (57 : Int)))))), (34, .cond (!(((decide ((97 : Int) ≤ (((List.getD a0 v4 0).toNat : Nat) : Int))) && (decide ((((List.getD a0 v4 0).toNat : Nat) : Int) ≤ (122 : Int)))) || ((decide ((65 : Int) ≤ (((List.getD a0 v4 0).toNat : Nat) : Int))) && (decide ((((List.getD a0 v4 0).toNat : Nat) : Int) ≤ (90 : Int)))))) (vb (!((decide ((48 : Int) ≤ (((List.getD a0 v4 0).toNat : Nat) : Int))) && (decide ((((List.getD a0 v4 0).toNat : Nat) : Int) ≤ (57 : Int))))))), (36, vb ((!(((decide ((97 : Int) ≤ (((List.getD a0 v4 0).toNat : Nat) : Int))) && (decide ((((List.getD a0 v4 0).toNat : Nat) : Int) ≤ (122 : Int)))) || ((decide ((65 : Int) ≤ (((List.getD a0 v4 0).toNat : Nat) : Int))) && (decide ((((List.getD a0 v4 0).toNat : Nat) : Int) ≤ (90 : Int)))))) && (!((decide ((48 : Int) ≤ (((List.getD a0 v4 0).toNat : Nat) : Int))) && (decide ((((List.getD a0 v4 0).toNat : Nat) : Int) ≤ (57 : Int)))))))] [] ?_
    refine RegJ.op (Op1.valk (v := vt a0) _ _ (cy (IG 37 (.mov (.t 0)) 36 true)) rfl (by kernel_rfl) (fun hg => (.cons rfl .nil))) ?_
    refine RegJ.op (Op1.valk (v := vi v4) _ _ (cy (IG 38 (.mov (.t 3)) 36 true)) rfl (by kernel_rfl) (fun hg => (.cons rfl .nil))) ?_
    refine RegJ.op (Op1.valg (v := vk .u8 (((List.getD a0 v4 0).toNat : Nat) : Int)) _ _ (cy (IG 39 (.sidx (.t 37) (.t 38)) 36 true)) rfl (fun hg => (ok_sidx_t (j := v4) rfl rfl rfl c3)) (fun hg => (.cons hg (.cons hg .nil)))) ?_
    refine RegJ.op (Op1.valk (v := vb ((((List.getD a0 v4 0).toNat : Nat) : Int) != (45 : Int))) _ _ (cy (IG 40 (.bin .neq false (.t 39) (.c (.p (.int .u8 45)))) 36 true)) rfl (by kernel_rfl) (fun hg => (.cons hg (.cons rfl .nil)))) ?_
    refine RegJ.op (Op1.and (cy (I0 41 (.pick (.t 36) (.t 40) (.c (.p (.bool false)))))) rfl rfl (by first | exact hokA1 | exact hokA0 | simp)) ?_
    refine jp [(0, vt a0), (3, vi v4), (41, vb (((!(((decide ((97 : Int) ≤ (((List.getD a0 v4 0).toNat : Nat) : Int))) && (decide ((((List.getD a0 v4 0).toNat : Nat) : Int) ≤ (122 : Int)))) || ((decide ((65 : Int) ≤ (((List.getD a0 v4 0).toNat : Nat) : Int))) && (decide ((((List.getD a0 v4 0).toNat : Nat) : Int) ≤ (90 : Int)))))) && (!((decide ((48 : Int) ≤ (((List.getD a0 v4 0).toNat : Nat) : Int))) && (decide ((((List.getD a0 v4 0).toNat : Nat) : Int) ≤ (57 : Int)))))) && ((((List.getD a0 v4 0).toNat : Nat) : Int) != (45 : Int))))] ?_
    refine TriE.cond (b := ((!(((decide ((97 : Int) ≤ (((List.getD a0 v4 0).toNat : Nat) : Int))) && (decide ((((List.getD a0 v4 0).toNat : Nat) : Int) ≤ (122 : Int)))) || ((decide ((65 : Int) ≤ (((List.getD a0 v4 0).toNat : Nat) : Int))) && (decide ((((List.getD a0 v4 0).toNat : Nat) : Int) ≤ (90 : Int)))))) && (!((decide ((48 : Int) ≤ (((List.getD a0 v4 0).toNat : Nat) : Int))) && (decide ((((List.getD a0 v4 0).toNat : Nat) : Int) ≤ (57 : Int)))))) && ((((List.getD a0 v4 0).toNat : Nat) : Int) != (45 : Int))) rfl (fun c4 => ?_) (fun c4 => ?_)
    · have h := cond_t h c4
      refine sr [(2, vb false)] [] ?_
      refine TriE.ret ?_
      have h := Option.some.inj h
      subst h
      exact DoneS.ret (S' := ⟨[(2, vb false)], []⟩) Sees.refl rfl rfl
    have h := cond_f h c4
    refine TriE.skip ?_
    refine TriE.regJ ?_
    refine rn 1 [(0, vt a0), (22, vi v4)] [] ?_
    obtain ⟨c5, h⟩ := chk_some h
    refine jv (vi ((v4 + 1 : Nat) : Int)) (cy (I0 23 (.bin .add false (.t 22) (.c (.p (.int .i64 1)))))) (r_addn (i := v4) (j := 1) rfl rfl c5) rfl ?_
    refine jq 1 [(0, vt a0), (3, vi ((v4 + 1 : Nat) : Int))] [] ?_
    exact Vs.intro sy ⟨(v4 + 1), rfl, h⟩
  have h := cond_f h c3
  refine TriE.exit ?_
  exact Vs.intro sy ⟨(), rfl, h⟩
theorem agrafferef08_Find_ok (n : Nat) (a0 : List Task) (a1 : Str) (r : Int) (h : agrafferef08_Find n a0 a1 = some r) : FnL Tryz.prog 73 [eS 6 eTask a0, vt a1] [] (vi r) [] := by
  dsimp only [agrafferef08_Find] at h
  refine FnL.ofS (ts := [4]) Tryz.call73 Tryz.func73 rfl rfl (Nat.le_of_ble_eq_true rfl) (Nat.le_of_ble_eq_true rfl) (fun j h => absurd h (Nat.not_lt_zero j)) ?_
  refine sr [(0, eS 6 eTask a0), (1, vt a1)] [] ?_
  refine TriE.seqK h (fun (_ : Unit) => St.mk [] []) ?_ ?_
  · rintro ⟨⟩ h
    refine sr [(4, vi (-1))] [] ?_
    refine TriE.ret ?_
    have h := Option.some.inj h
    subst h
    exact DoneS.ret (S' := ⟨[(4, vi (-1))], []⟩) Sees.refl rfl rfl
  intro k1 h
  refine sr [(0, eS 6 eTask a0), (1, vt a1), (5, vi 0)] [] ?_
  refine TriE.block ?_
  refine TriE.sees (S' := ⟨[(0, eS 6 eTask a0), (1, vt a1), (5, vi 0)], []⟩) sy ?_
  refine TriE.loopN h (fun (v1 : Nat) => St.mk [(0, eS 6 eTask a0), (1, vt a1), (5, vi v1)] []) rfl ?_
  clear h
  rintro back v1 h
  dsimp only [agrafferef08_Find_L1] at h
  refine TriE.seq ?_
  refine sj ?_
  refine rn 2 [(0, eS 6 eTask a0), (1, vt a1), (5, vi v1), (6, vi v1), (7, eS 6 eTask a0)] [] ?_
  refine jv (vi (a0.length : Int)) (cy (I0 8 (.len 0 (.t 7)))) (ok_len_m rfl) rfl ?_
  refine jv (vb (decide (v1 < a0.length))) (cy (I0 9 (.bin .lss false (.t 6) (.t 8)))) (n_lss (i := v1) (j := a0.length) rfl rfl) rfl ?_
  refine jp [(0, eS 6 eTask a0), (1, vt a1), (5, vi v1), (9, vb (decide (v1 < a0.length)))] ?_
  refine TriE.cond (b := decide (v1 < a0.length)) rfl (fun c1 => ?_) (fun c1 => ?_)
  · have h := cond_t h c1
    refine TriE.skip ?_
    refine TriE.seq ?_
    refine TriE.block ?_
    refine sj ?_
    refine rn 2 [(0, eS 6 eTask a0), (1, vt a1), (5, vi v1), (12, eS 6 eTask a0), (13, vi v1)] [] ?_
    refine jv (.fptr 6 (List.map eTask a0) v1 0) (cy (I0 14 (.iaddr 6 (.t 12) (.t 13)))) (ok_iaddr_m (j := v1) rfl rfl rfl c1) rfl ?_
    refine rn 1 [(0, eS 6 eTask a0), (1, vt a1), (5, vi v1), (15, .fptr 6 (List.map eTask a0) v1 0)] [] ?_
    refine jv (vt ((ix a0 v1).Name)) (cy (I0 16 (.load false 1 (.t 15)))) (ok_load_fm (v := vt ((ix a0 v1).Name)) rfl c1 rfl) rfl ?_
    refine jq 2 [(0, eS 6 eTask a0), (1, vt a1), (5, vi v1), (18, vb (((ix a0 v1).Name) == a1))] [] ?_
    refine TriE.cond (b := (((ix a0 v1).Name) == a1)) rfl (fun c2 => ?_) (fun c2 => ?_)
    · have h := cond_t h c2
      refine sr [(4, vi v1)] [] ?_
      refine TriE.ret ?_
      have h := Option.some.inj h
      subst h
      exact DoneS.ret (S' := ⟨[(4, vi v1)], []⟩) Sees.refl rfl rfl
    have h := cond_f h c2
    refine TriE.skip ?_
    refine TriE.regJ ?_
    refine rn 1 [(0, eS 6 eTask a0), (1, vt a1), (10, vi v1)] [] ?_
    obtain ⟨c3, h⟩ := chk_some h
    refine jv (vi ((v1 + 1 : Nat) : Int)) (cy (I0 11 (.bin .add false (.t 10) (.c (.p (.int .i64 1)))))) (r_addn (i := v1) (j := 1) rfl rfl c3) rfl ?_
    refine jq 1 [(0, eS 6 eTask a0), (1, vt a1), (5, vi ((v1 + 1 : Nat) : Int))] [] ?_
    exact Vs.intro sy ⟨(v1 + 1), rfl, h⟩
  have h := cond_f h c1
  refine TriE.exit ?_
  exact Vs.intro sy ⟨(), rfl, h⟩
theorem agraffebase_Within_ok (n : Nat) (a0 : Int) (a1 : Int) (a2 : Int) (r : Unit) (h : agraffebase_Within n a0 a1 a2 = some r) : FnL Tryz.prog 93 [vi a0, vi a1, vi a2] [] (vb ((decide (a1 ≤ a0)) && (decide (a0 ≤ a2)))) [] := by
  dsimp only [agraffebase_Within] at h
  refine FnL.ofS (ts := [6]) Tryz.call93 Tryz.func93 rfl rfl (Nat.le_of_ble_eq_true rfl) (Nat.le_of_ble_eq_true rfl) (fun j h => absurd h (Nat.not_lt_zero j)) ?_
  refine sr [(0, vi a0), (1, vi a1), (2, vi a2)] [] ?_
  refine sj ?_
  refine rn 4 [(0, vi a0), (2, vi a2), (10, vb (decide (a1 ≤ a0)))] [] ?_
  refine RegJ.op (Op1.valk (v := vi a0) _ _ (cy (IG 11 (.mov (.t 0)) 10 true)) rfl (by kernel_rfl) (fun hg => (.cons rfl .nil))) ?_
  refine RegJ.op (Op1.valk (v := vi a2) _ _ (cy (IG 12 (.mov (.t 2)) 10 true)) rfl (by kernel_rfl) (fun hg => (.cons rfl .nil))) ?_
  refine RegJ.op (Op1.valk (v := vb (decide (a0 ≤ a2))) _ _ (cy (IG 13 (.bin .leq false (.t 11) (.t 12)) 10 true)) rfl (by kernel_rfl) (fun hg => (.cons hg (.cons hg .nil)))) ?_
  refine RegJ.op (Op1.and (cy (I0 14 (.pick (.t 10) (.t 13) (.c (.p (.bool false)))))) rfl rfl (by first | exact hokA1 | exact hokA0 | simp)) ?_
  refine jq 1 [(6, vb ((decide (a1 ≤ a0)) && (decide (a0 ≤ a2))))] [] ?_
  refine TriE.ret ?_
  have h := Option.some.inj h
  subst h
  exact DoneS.ret (S' := ⟨[(6, vb ((decide (a1 ≤ a0)) && (decide (a0 ≤ a2))))], []⟩) Sees.refl rfl rfl
theorem agraffebase_HasText_ok (n : Nat) (a0 : List Str) (a1 : Str) (r : Bool) (h : agraffebase_HasText n a0 a1 = some r) : FnL Tryz.prog 81 [eS 1 vt a0, vt a1] [] (vb r) [] := by
  dsimp only [agraffebase_HasText] at h
  refine FnL.ofS (ts := [4]) Tryz.call81 Tryz.func81 rfl rfl (Nat.le_of_ble_eq_true rfl) (Nat.le_of_ble_eq_true rfl) (fun j h => absurd h (Nat.not_lt_zero j)) ?_
  refine sr [(0, eS 1 vt a0), (1, vt a1)] [] ?_
  refine TriE.seqK h (fun (_ : Unit) => St.mk [] []) ?_ ?_
  · rintro ⟨⟩ h
    refine sr [(4, vb false)] [] ?_
    refine TriE.ret ?_
    have h := Option.some.inj h
    subst h
    exact DoneS.ret (S' := ⟨[(4, vb false)], []⟩) Sees.refl rfl rfl
  intro k1 h
  refine sr [(0, eS 1 vt a0), (1, vt a1), (5, vi 0)] [] ?_
  refine TriE.block ?_
  refine TriE.sees (S' := ⟨[(0, eS 1 vt a0), (1, vt a1), (5, vi 0)], []⟩) sy ?_
  refine TriE.loopN h (fun (v1 : Nat) => St.mk [(0, eS 1 vt a0), (1, vt a1), (5, vi v1)] []) rfl ?_
  clear h
  rintro back v1 h
  dsimp only [agraffebase_HasText_L1] at h
  refine TriE.seq ?_
  refine sj ?_
  refine rn 2 [(0, eS 1 vt a0), (1, vt a1), (5, vi v1), (6, vi v1), (7, eS 1 vt a0)] [] ?_
  refine jv (vi (a0.length : Int)) (cy (I0 8 (.len 0 (.t 7)))) (ok_len_m rfl) rfl ?_
  refine jv (vb (decide (v1 < a0.length))) (cy (I0 9 (.bin .lss false (.t 6) (.t 8)))) (n_lss (i := v1) (j := a0.length) rfl rfl) rfl ?_
  refine jp [(0, eS 1 vt a0), (1, vt a1), (5, vi v1), (9, vb (decide (v1 < a0.length)))] ?_
  refine TriE.cond (b := decide (v1 < a0.length)) rfl (fun c1 => ?_) (fun c1 => ?_)
  · have h := cond_t h c1
    refine TriE.skip ?_
    refine TriE.seq ?_
    refine TriE.block ?_
    refine sj ?_
    refine rn 2 [(0, eS 1 vt a0), (1, vt a1), (5, vi v1), (12, eS 1 vt a0), (13, vi v1)] [] ?_
    refine jv (.fptr 1 (List.map vt a0) v1 0) (cy (I0 14 (.iaddr 1 (.t 12) (.t 13)))) (ok_iaddr_m (j := v1) rfl rfl rfl c1) rfl ?_
    refine jv (vt (ix a0 v1)) (cy (I0 15 (.load false 1 (.t 14)))) (ok_load_fm (v := vt (ix a0 v1)) rfl c1 rfl) rfl ?_
    refine jq 2 [(0, eS 1 vt a0), (1, vt a1), (5, vi v1), (17, vb ((ix a0 v1) == a1))] [] ?_
    refine TriE.cond (b := ((ix a0 v1) == a1)) rfl (fun c2 => ?_) (fun c2 => ?_)
    · have h := cond_t h c2
      refine sr [(4, vb true)] [] ?_
      refine TriE.ret ?_
      have h := Option.some.inj h
      subst h
      exact DoneS.ret (S' := ⟨[(4, vb true)], []⟩) Sees.refl rfl rfl
    have h := cond_f h c2
    refine TriE.skip ?_
    refine TriE.regJ ?_
    refine rn 1 [(0, eS 1 vt a0), (1, vt a1), (10, vi v1)] [] ?_
    obtain ⟨c3, h⟩ := chk_some h
    refine jv (vi ((v1 + 1 : Nat) : Int)) (cy (I0 11 (.bin .add false (.t 10) (.c (.p (.int .i64 1)))))) (r_addn (i := v1) (j := 1) rfl rfl c3) rfl ?_
    refine jq 1 [(0, eS 1 vt a0), (1, vt a1), (5, vi ((v1 + 1 : Nat) : Int))] [] ?_
    exact Vs.intro sy ⟨(v1 + 1), rfl, h⟩
  have h := cond_f h c1
  refine TriE.exit ?_
  exact Vs.intro sy ⟨(), rfl, h⟩
theorem agrafferef08_tasks_ok (n : Nat) (a0 : List Task) (a1 : List Str) (r : Int) (h : agrafferef08_tasks n a0 a1 = some r) : FnL Tryz.prog 97 [eS 6 eTask a0, eS 1 vt a1] [] (vi r) [] := by
  dsimp only [agrafferef08_tasks] at h
  refine FnL.ofS (ts := [4]) Tryz.call97 Tryz.func97 rfl rfl (Nat.le_of_ble_eq_true rfl) (Nat.le_of_ble_eq_true rfl) (fun j h => absurd h (Nat.not_lt_zero j)) ?_
  refine sr [(0, eS 6 eTask a0), (1, eS 1 vt a1)] [] ?_
  refine TriE.seqK h (fun (_ : Unit) => St.mk [] []) ?_ ?_
  · rintro ⟨⟩ h
    refine sr [(4, vi 0)] [] ?_
    refine TriE.ret ?_
    have h := Option.some.inj h
    subst h
    exact DoneS.ret (S' := ⟨[(4, vi 0)], []⟩) Sees.refl rfl rfl
  intro k1 h
  refine sr [(0, eS 6 eTask a0), (1, eS 1 vt a1), (5, vi 0)] [] ?_
  refine TriE.block ?_
  refine TriE.sees (S' := ⟨[(0, eS 6 eTask a0), (1, eS 1 vt a1), (5, vi 0)], []⟩) sy ?_
  refine TriE.loopN h (fun (v3 : Nat) => St.mk [(0, eS 6 eTask a0), (1, eS 1 vt a1), (5, vi v3)] []) rfl ?_
  clear h
  rintro back v3 h
  dsimp only [agrafferef08_tasks_L1] at h
  refine TriE.seq ?_
  refine sj ?_
  refine rn 2 [(0, eS 6 eTask a0), (1, eS 1 vt a1), (5, vi v3), (6, vi v3), (7, eS 1 vt a1)] [] ?_
  refine jv (vi (a1.length : Int)) (cy (I0 8 (.len 0 (.t 7)))) (ok_len_m rfl) rfl ?_
  refine jv (vb (decide (v3 < a1.length))) (cy (I0 9 (.bin .lss false (.t 6) (.t 8)))) (n_lss (i := v3) (j := a1.length) rfl rfl) rfl ?_
  refine jp [(0, eS 6 eTask a0), (1, eS 1 vt a1), (5, vi v3), (9, vb (decide (v3 < a1.length)))] ?_
  refine TriE.cond (b := decide (v3 < a1.length)) rfl (fun c1 => ?_) (fun c1 => ?_)
  · have h := cond_t h c1
    refine TriE.skip ?_
    refine TriE.seq ?_
    refine TriE.block ?_
    refine TriE.seq ?_
    refine sj ?_
    refine rn 3 [(0, eS 6 eTask a0), (1, eS 1 vt a1), (5, vi v3), (12, eS 6 eTask a0), (13, eS 1 vt a1), (14, vi v3)] [] ?_
    refine jv (.fptr 1 (List.map vt a1) v3 0) (cy (I0 15 (.iaddr 1 (.t 13) (.t 14)))) (ok_iaddr_m (j := v3) rfl rfl rfl c1) rfl ?_
    refine jv (vt (ix a1 v3)) (cy (I0 16 (.load false 1 (.t 15)))) (ok_load_fm (v := vt (ix a1 v3)) rfl c1 rfl) rfl ?_
    obtain ⟨y4, hy4, h⟩ := bind_some h
    refine RegJ.op (Op1.call (y' := vi y4) (obx := []) (oby := []) (ob2 := []) _ _ (cy (I0 17 (.call 73 [(.t 12), (.t 16)]))) rfl (agrafferef08_Find_ok n a0 (ix a1 v3) y4 hy4) [] (by kernel_rfl) (.cons rfl (.cons rfl (.cons rfl .nil))) (by kernel_rfl) (by kernel_rfl) ObsRen.nil (by kernel_rfl) ObsRen.nil (by kernel_rfl)) ?_
    refine jq 1 [(0, eS 6 eTask a0), (1, eS 1 vt a1), (5, vi v3), (18, vb (decide (y4 < (0 : Int))))] [] ?_
    refine TriE.cond (b := decide (y4 < (0 : Int))) rfl (fun c2 => ?_) (fun c2 => ?_)
    · have h := cond_t h c2
      refine sr [(4, vi 6)] [] ?_
      refine TriE.ret ?_
      have h := Option.some.inj h
      subst h
      exact DoneS.ret (S' := ⟨[(4, vi 6)], []⟩) Sees.refl rfl rfl
    have h := cond_f h c2
    refine TriE.skip ?_
    refine TriE.seq ?_
    refine TriE.sees (Sees.less (fr' := [(0, eS 6 eTask a0), (1, eS 1 vt a1), (5, vi v3)]) (.cons rfl (.cons rfl (.cons rfl .nil)))) ?_
    refine TriE.draw (by kernel_rfl) ?_
    refine RegD.run 2 [(20, vi v3), (19, eS 1 vt a1), (0, eS 6 eTask a0), (1, eS 1 vt a1), (5, vi v3)] [none, none] (by kernel_rfl) ?_
    obtain ⟨c3, h⟩ := chk_some h
    refine dv (eS 1 vt (List.take v3 a1)) (cy (I0 21 (.slc 1 (.t 19) none (some (.t 20)) none))) (ok_slc_hi (j := v3) rfl rfl rfl c3) rfl ?_
    refine RegD.run 2 [(23, vi v3), (22, eS 1 vt a1), (21, eS 1 vt (List.take v3 a1)), (20, vi v3), (19, eS 1 vt a1), (0, eS 6 eTask a0), (1, eS 1 vt a1), (5, vi v3)] [none, none, none, none, none] (by kernel_rfl) ?_
    refine dv (.fptr 1 (List.map vt a1) v3 0) (cy (I0 24 (.iaddr 1 (.t 22) (.t 23)))) (ok_iaddr_m (j := v3) rfl rfl rfl c1) rfl ?_
    refine dv (vt (ix a1 v3)) (cy (I0 25 (.load false 1 (.t 24)))) (ok_load_fm (v := vt (ix a1 v3)) rfl c1 rfl) rfl ?_
    obtain ⟨y5, hy5, h⟩ := bind_some h
    refine RegD.op (OpD.call (y' := vb y5) (obx := []) (oby := []) (ob2 := [none, none, none, none, none, none, none, none]) (tch := []) 0 _ _ (cy (I0 26 (.call 81 [(.t 21), (.t 25)]))) (agraffebase_HasText_ok n (List.take v3 a1) (ix a1 v3) y5 hy5) [] (by kernel_rfl) (.cons rfl (.cons rfl (.cons rfl .nil))) (by kernel_rfl) (by kernel_rfl) ObsRen.nil (by kernel_rfl) ObsRen.nil (by kernel_rfl) rfl (.inr ⟨rfl, rfl⟩)) ?_
    refine RegD.done rfl (by kernel_rfl) (S' := ⟨[(0, eS 6 eTask a0), (1, eS 1 vt a1), (5, vi v3), (26, vb y5)], []⟩) (sc [] (by decide) (by kernel_rfl) ObRen.nil rfl rfl) ?_
    refine TriE.cond (b := y5) rfl (fun c4 => ?_) (fun c4 => ?_)
    · have h := cond_t h c4
      refine sr [(4, vi 5)] [] ?_
      refine TriE.ret ?_
      have h := Option.some.inj h
      subst h
      exact DoneS.ret (S' := ⟨[(4, vi 5)], []⟩) Sees.refl rfl rfl
    have h := cond_f h c4
    refine TriE.skip ?_
    refine TriE.regJ ?_
    refine rn 1 [(0, eS 6 eTask a0), (1, eS 1 vt a1), (10, vi v3)] [] ?_
    obtain ⟨c5, h⟩ := chk_some h
    refine jv (vi ((v3 + 1 : Nat) : Int)) (cy (I0 11 (.bin .add false (.t 10) (.c (.p (.int .i64 1)))))) (r_addn (i := v3) (j := 1) rfl rfl c5) rfl ?_
    refine jq 1 [(0, eS 6 eTask a0), (1, eS 1 vt a1), (5, vi ((v3 + 1 : Nat) : Int))] [] ?_
    exact Vs.intro sy ⟨(v3 + 1), rfl, h⟩
  have h := cond_f h c1
  refine TriE.exit ?_
  exact Vs.intro sy ⟨(), rfl, h⟩
theorem agrafferef08_FindPart_ok (n : Nat) (a0 : List PartCount) (a1 : Str) (r : Int) (h : agrafferef08_FindPart n a0 a1 = some r) : FnL Tryz.prog 147 [eS 2 ePartCount a0, vt a1] [] (vi r) [] := by
  dsimp only [agrafferef08_FindPart] at h
  refine FnL.ofS (ts := [4]) Tryz.call147 Tryz.func147 rfl rfl (Nat.le_of_ble_eq_true rfl) (Nat.le_of_ble_eq_true rfl) (fun j h => absurd h (Nat.not_lt_zero j)) ?_
  refine sr [(0, eS 2 ePartCount a0), (1, vt a1)] [] ?_
  refine TriE.seqK h (fun (_ : Unit) => St.mk [] []) ?_ ?_
  · rintro ⟨⟩ h
    refine sr [(4, vi (-1))] [] ?_
    refine TriE.ret ?_
    have h := Option.some.inj h
    subst h
    exact DoneS.ret (S' := ⟨[(4, vi (-1))], []⟩) Sees.refl rfl rfl
  intro k1 h
  refine sr [(0, eS 2 ePartCount a0), (1, vt a1), (5, vi 0)] [] ?_
  refine TriE.block ?_
  refine TriE.sees (S' := ⟨[(0, eS 2 ePartCount a0), (1, vt a1), (5, vi 0)], []⟩) sy ?_
  refine TriE.loopN h (fun (v1 : Nat) => St.mk [(0, eS 2 ePartCount a0), (1, vt a1), (5, vi v1)] []) rfl ?_
  clear h
  rintro back v1 h
  dsimp only [agrafferef08_FindPart_L1] at h
  refine TriE.seq ?_
  refine sj ?_
  refine rn 2 [(0, eS 2 ePartCount a0), (1, vt a1), (5, vi v1), (6, vi v1), (7, eS 2 ePartCount a0)] [] ?_
  refine jv (vi (a0.length : Int)) (cy (I0 8 (.len 0 (.t 7)))) (ok_len_m rfl) rfl ?_
  refine jv (vb (decide (v1 < a0.length))) (cy (I0 9 (.bin .lss false (.t 6) (.t 8)))) (n_lss (i := v1) (j := a0.length) rfl rfl) rfl ?_
  refine jp [(0, eS 2 ePartCount a0), (1, vt a1), (5, vi v1), (9, vb (decide (v1 < a0.length)))] ?_
  refine TriE.cond (b := decide (v1 < a0.length)) rfl (fun c1 => ?_) (fun c1 => ?_)
  · have h := cond_t h c1
    refine TriE.skip ?_
    refine TriE.seq ?_
    refine TriE.block ?_
    refine sj ?_
    refine rn 2 [(0, eS 2 ePartCount a0), (1, vt a1), (5, vi v1), (12, eS 2 ePartCount a0), (13, vi v1)] [] ?_
    refine jv (.fptr 2 (List.map ePartCount a0) v1 0) (cy (I0 14 (.iaddr 2 (.t 12) (.t 13)))) (ok_iaddr_m (j := v1) rfl rfl rfl c1) rfl ?_
    refine rn 1 [(0, eS 2 ePartCount a0), (1, vt a1), (5, vi v1), (15, .fptr 2 (List.map ePartCount a0) v1 0)] [] ?_
    refine jv (vt ((ix a0 v1).Part)) (cy (I0 16 (.load false 1 (.t 15)))) (ok_load_fm (v := vt ((ix a0 v1).Part)) rfl c1 rfl) rfl ?_
    refine jq 2 [(0, eS 2 ePartCount a0), (1, vt a1), (5, vi v1), (18, vb (((ix a0 v1).Part) == a1))] [] ?_
    refine TriE.cond (b := (((ix a0 v1).Part) == a1)) rfl (fun c2 => ?_) (fun c2 => ?_)
    · have h := cond_t h c2
      refine sr [(4, vi v1)] [] ?_
      refine TriE.ret ?_
      have h := Option.some.inj h
      subst h
      exact DoneS.ret (S' := ⟨[(4, vi v1)], []⟩) Sees.refl rfl rfl
    have h := cond_f h c2
    refine TriE.skip ?_
    refine TriE.regJ ?_
    refine rn 1 [(0, eS 2 ePartCount a0), (1, vt a1), (10, vi v1)] [] ?_
    obtain ⟨c3, h⟩ := chk_some h
    refine jv (vi ((v1 + 1 : Nat) : Int)) (cy (I0 11 (.bin .add false (.t 10) (.c (.p (.int .i64 1)))))) (r_addn (i := v1) (j := 1) rfl rfl c3) rfl ?_
    refine jq 1 [(0, eS 2 ePartCount a0), (1, vt a1), (5, vi ((v1 + 1 : Nat) : Int))] [] ?_
    exact Vs.intro sy ⟨(v1 + 1), rfl, h⟩
  have h := cond_f h c1
  refine TriE.exit ?_
  exact Vs.intro sy ⟨(), rfl, h⟩
theorem agrafferef08_counts_ok (n : Nat) (a0 : List PartCount) (a1 : Int) (r : Int) (h : agrafferef08_counts n a0 a1 = some r) : FnL Tryz.prog 110 [eS 2 ePartCount a0, vi a1] [] (vi r) [] := by
  dsimp only [agrafferef08_counts] at h
  refine FnL.ofS (ts := [4]) Tryz.call110 Tryz.func110 rfl rfl (Nat.le_of_ble_eq_true rfl) (Nat.le_of_ble_eq_true rfl) (fun j h => absurd h (Nat.not_lt_zero j)) ?_
  refine sr [(0, eS 2 ePartCount a0), (1, vi a1)] [] ?_
  refine TriE.seqK h (fun (_ : Unit) => St.mk [] []) ?_ ?_
  · rintro ⟨⟩ h
    refine sr [(4, vi 0)] [] ?_
    refine TriE.ret ?_
    have h := Option.some.inj h
    subst h
    exact DoneS.ret (S' := ⟨[(4, vi 0)], []⟩) Sees.refl rfl rfl
  intro k1 h
  refine sr [(0, eS 2 ePartCount a0), (1, vi a1), (5, vi 0)] [] ?_
  refine TriE.block ?_
  refine TriE.sees (S' := ⟨[(0, eS 2 ePartCount a0), (1, vi a1), (5, vi 0)], []⟩) sy ?_
  refine TriE.loopN h (fun (v4 : Nat) => St.mk [(0, eS 2 ePartCount a0), (1, vi a1), (5, vi v4)] []) rfl ?_
  clear h
  rintro back v4 h
  dsimp only [agrafferef08_counts_L1] at h
  refine TriE.seq ?_
  refine sj ?_
  refine rn 2 [(0, eS 2 ePartCount a0), (1, vi a1), (5, vi v4), (6, vi v4), (7, eS 2 ePartCount a0)] [] ?_
  refine jv (vi (a0.length : Int)) (cy (I0 8 (.len 0 (.t 7)))) (ok_len_m rfl) rfl ?_
  refine jv (vb (decide (v4 < a0.length))) (cy (I0 9 (.bin .lss false (.t 6) (.t 8)))) (n_lss (i := v4) (j := a0.length) rfl rfl) rfl ?_
  refine jp [(0, eS 2 ePartCount a0), (1, vi a1), (5, vi v4), (9, vb (decide (v4 < a0.length)))] ?_
  refine TriE.cond (b := decide (v4 < a0.length)) rfl (fun c1 => ?_) (fun c1 => ?_)
  · have h := cond_t h c1
    refine TriE.skip ?_
    refine TriE.seq ?_
    refine TriE.block ?_
    refine TriE.seq ?_
    refine sj ?_
    refine rn 2 [(0, eS 2 ePartCount a0), (1, vi a1), (5, vi v4), (12, eS 2 ePartCount a0), (13, vi v4)] [] ?_
    refine jv (.fptr 2 (List.map ePartCount a0) v4 0) (cy (I0 14 (.iaddr 2 (.t 12) (.t 13)))) (ok_iaddr_m (j := v4) rfl rfl rfl c1) rfl ?_
    refine rn 1 [(0, eS 2 ePartCount a0), (1, vi a1), (5, vi v4), (15, .fptr 2 (List.map ePartCount a0) v4 0)] [] ?_
    refine jv (vt ((ix a0 v4).Part)) (cy (I0 16 (.load false 1 (.t 15)))) (ok_load_fm (v := vt ((ix a0 v4).Part)) rfl c1 rfl) rfl ?_
    obtain ⟨y5, hy5, h⟩ := bind_some h
    refine RegJ.op (Op1.call (y' := vb y5) (obx := []) (oby := []) (ob2 := []) _ _ (cy (I0 17 (.call 92 [(.t 16)]))) rfl (agraffebase_IsName_ok n ((ix a0 v4).Part) y5 hy5) [] (by kernel_rfl) (.cons rfl (.cons rfl .nil)) (by kernel_rfl) (by kernel_rfl) ObsRen.nil (by kernel_rfl) ObsRen.nil (by kernel_rfl)) ?_
    refine jq 1 [(0, eS 2 ePartCount a0), (1, vi a1), (5, vi v4), (18, vb (!y5))] [] ?_
    refine TriE.cond (b := !y5) rfl (fun c2 => ?_) (fun c2 => ?_)
    · have h := cond_t h c2
      refine sr [(4, vi 4)] [] ?_
      refine TriE.ret ?_
      have h := Option.some.inj h
      subst h
      exact DoneS.ret (S' := ⟨[(4, vi 4)], []⟩) Sees.refl rfl rfl
    have h := cond_f h c2
    refine TriE.skip ?_
    refine TriE.seq ?_
    refine TriE.seq ?_
    refine TriE.sees (Sees.less (fr' := [(0, eS 2 ePartCount a0), (1, vi a1), (5, vi v4)]) (.cons rfl (.cons rfl (.cons rfl .nil)))) ?_
    refine TriE.draw (by kernel_rfl) ?_
    refine RegD.run 2 [(20, vi v4), (19, eS 2 ePartCount a0), (0, eS 2 ePartCount a0), (1, vi a1), (5, vi v4)] [none, none] (by kernel_rfl) ?_
    obtain ⟨c3, h⟩ := chk_some h
    refine dv (eS 2 ePartCount (List.take v4 a0)) (cy (I0 21 (.slc 2 (.t 19) none (some (.t 20)) none))) (ok_slc_hi (j := v4) rfl rfl rfl c3) rfl ?_
    refine RegD.run 2 [(23, vi v4), (22, eS 2 ePartCount a0), (21, eS 2 ePartCount (List.take v4 a0)), (20, vi v4), (19, eS 2 ePartCount a0), (0, eS 2 ePartCount a0), (1, vi a1), (5, vi v4)] [none, none, none, none, none] (by kernel_rfl) ?_
    refine dv (.fptr 2 (List.map ePartCount a0) v4 0) (cy (I0 24 (.iaddr 2 (.t 22) (.t 23)))) (ok_iaddr_m (j := v4) rfl rfl rfl c1) rfl ?_
    refine RegD.run 1 [(25, .fptr 2 (List.map ePartCount a0) v4 0), (24, .fptr 2 (List.map ePartCount a0) v4 0), (23, vi v4), (22, eS 2 ePartCount a0), (21, eS 2 ePartCount (List.take v4 a0)), (20, vi v4), (19, eS 2 ePartCount a0), (0, eS 2 ePartCount a0), (1, vi a1), (5, vi v4)] [none, none, none, none, none, none, none] (by kernel_rfl) ?_
    refine dv (vt ((ix a0 v4).Part)) (cy (I0 26 (.load false 1 (.t 25)))) (ok_load_fm (v := vt ((ix a0 v4).Part)) rfl c1 rfl) rfl ?_
    obtain ⟨y6, hy6, h⟩ := bind_some h
    refine RegD.op (OpD.call (y' := vi y6) (obx := []) (oby := []) (ob2 := [none, none, none, none, none, none, none, none, none]) (tch := []) 0 _ _ (cy (I0 27 (.call 147 [(.t 21), (.t 26)]))) (agrafferef08_FindPart_ok n (List.take v4 a0) ((ix a0 v4).Part) y6 hy6) [] (by kernel_rfl) (.cons rfl (.cons rfl (.cons rfl .nil))) (by kernel_rfl) (by kernel_rfl) ObsRen.nil (by kernel_rfl) ObsRen.nil (by kernel_rfl) rfl (.inr ⟨rfl, rfl⟩)) ?_
    refine RegD.run 1 [(28, vb (decide ((0 : Int) ≤ y6))), (27, vi y6), (26, vt ((ix a0 v4).Part)), (25, .fptr 2 (List.map ePartCount a0) v4 0), (24, .fptr 2 (List.map ePartCount a0) v4 0), (23, vi v4), (22, eS 2 ePartCount a0), (21, eS 2 ePartCount (List.take v4 a0)), (20, vi v4), (19, eS 2 ePartCount a0), (0, eS 2 ePartCount a0), (1, vi a1), (5, vi v4)] [none, none, none, none, none, none, none, none, none, none] (by kernel_rfl) ?_
    refine RegD.done rfl (by kernel_rfl) (S' := ⟨[(0, eS 2 ePartCount a0), (1, vi a1), (5, vi v4), (28, vb (decide ((0 : Int) ≤ y6)))], []⟩) (sc [] (by decide) (by kernel_rfl) ObRen.nil rfl rfl) ?_
    refine TriE.cond (b := decide ((0 : Int) ≤ y6)) rfl (fun c4 => ?_) (fun c4 => ?_)
    · have h := cond_t h c4
      refine sr [(4, vi 5)] [] ?_
      refine TriE.ret ?_
      have h := Option.some.inj h
      subst h
      exact DoneS.ret (S' := ⟨[(4, vi 5)], []⟩) Sees.refl rfl rfl
    have h := cond_f h c4
    refine TriE.skip ?_
    refine sj ?_
    refine rn 2 [(0, eS 2 ePartCount a0), (1, vi a1), (5, vi v4), (29, eS 2 ePartCount a0), (30, vi v4)] [] ?_
    refine jv (.fptr 2 (List.map ePartCount a0) v4 0) (cy (I0 31 (.iaddr 2 (.t 29) (.t 30)))) (ok_iaddr_m (j := v4) rfl rfl rfl c1) rfl ?_
    refine rn 1 [(0, eS 2 ePartCount a0), (1, vi a1), (5, vi v4), (32, .fptr 2 (List.map ePartCount a0) v4 1)] [] ?_
    refine jv (vi ((ix a0 v4).Count)) (cy (I0 33 (.load false 1 (.t 32)))) (ok_load_fm (v := vi ((ix a0 v4).Count)) rfl c1 rfl) rfl ?_
    refine rn 1 [(0, eS 2 ePartCount a0), (1, vi a1), (5, vi v4), (33, vi ((ix a0 v4).Count)), (34, vi a1)] [] ?_
    obtain ⟨y7, hy7, h⟩ := bind_some h
    refine RegJ.op (Op1.call (y' := vb ((decide (1 ≤ ((ix a0 v4).Count))) && (decide (((ix a0 v4).Count) ≤ a1)))) (obx := []) (oby := []) (ob2 := []) _ _ (cy (I0 35 (.call 93 [(.t 33), (.c (.p (.int .i64 1))), (.t 34)]))) rfl (agraffebase_Within_ok n ((ix a0 v4).Count) 1 a1 y7 hy7) [] (by kernel_rfl) (.cons rfl (.cons rfl (.cons rfl (.cons rfl .nil)))) (by kernel_rfl) (by kernel_rfl) ObsRen.nil (by kernel_rfl) ObsRen.nil (by kernel_rfl)) ?_
    refine jq 1 [(0, eS 2 ePartCount a0), (1, vi a1), (5, vi v4), (36, vb (!((decide (1 ≤ ((ix a0 v4).Count))) && (decide (((ix a0 v4).Count) ≤ a1)))))] [] ?_
    refine TriE.cond (b := !((decide (1 ≤ ((ix a0 v4).Count))) && (decide (((ix a0 v4).Count) ≤ a1)))) rfl (fun c5 => ?_) (fun c5 => ?_)
    · have h := cond_t h c5
      refine sr [(4, vi 2)] [] ?_
      refine TriE.ret ?_
      have h := Option.some.inj h
      subst h
      exact DoneS.ret (S' := ⟨[(4, vi 2)], []⟩) Sees.refl rfl rfl
    have h := cond_f h c5
    refine TriE.skip ?_
    refine TriE.regJ ?_
    refine rn 1 [(0, eS 2 ePartCount a0), (1, vi a1), (10, vi v4)] [] ?_
    obtain ⟨c6, h⟩ := chk_some h
    refine jv (vi ((v4 + 1 : Nat) : Int)) (cy (I0 11 (.bin .add false (.t 10) (.c (.p (.int .i64 1)))))) (r_addn (i := v4) (j := 1) rfl rfl c6) rfl ?_
    refine jq 1 [(0, eS 2 ePartCount a0), (1, vi a1), (5, vi ((v4 + 1 : Nat) : Int))] [] ?_
    exact Vs.intro sy ⟨(v4 + 1), rfl, h⟩
  have h := cond_f h c1
  refine TriE.exit ?_
  exact Vs.intro sy ⟨(), rfl, h⟩
end Go.Proofs.YtcdcpambkdlhjaaGreat.As
