/- The code computes what the plain functions say, part 2: no condition. -/
import Derived.Test.YtcdcpambkdlhjaaGreatWalk1
namespace Go.Proofs.YtcdcpambkdlhjaaGreat.As
open Go Go.Proofs
set_option maxRecDepth 4000
theorem cmp_Compare_string_ok (n : Nat) (a0 : Str) (a1 : Str) (r : Int) (h : cmp_Compare_string n a0 a1 = some r) : FnL Tryz.prog 145 [vt a0, vt a1] [] (vi r) [] := by
  dsimp only [cmp_Compare_string] at h
  refine FnL.ofS (ts := [4]) Tryz.call145 Tryz.func145 rfl rfl (Nat.le_of_ble_eq_true rfl) (Nat.le_of_ble_eq_true rfl) (fun j h => absurd h (Nat.not_lt_zero j)) ?_
  refine sr [(0, vt a0), (1, vt a1)] [] ?_
  refine sj ?_
  refine rn 1 [(0, vt a0), (1, vt a1), (7, vt a0)] [] ?_
  obtain ⟨y1, hy1, h⟩ := bind_some h
  refine RegJ.op (Op1.call (y' := vb (!(a0 == a0))) (obx := []) (oby := []) (ob2 := []) _ _ (cy (I0 8 (.call 186 [(.t 7)]))) rfl (cmp_isNaN_string_ok n a0 y1 hy1) [] (by kernel_rfl) (.cons rfl (.cons rfl .nil)) (by kernel_rfl) (by kernel_rfl) ObsRen.nil (by kernel_rfl) ObsRen.nil (by kernel_rfl)) ?_
  refine jq 1 [(0, vt a0), (1, vt a1), (5, vb (!(a0 == a0)))] [] ?_
  refine sj ?_
  refine rn 1 [(0, vt a0), (1, vt a1), (5, vb (!(a0 == a0))), (9, vt a1)] [] ?_
  obtain ⟨y2, hy2, h⟩ := bind_some h
  refine RegJ.op (Op1.call (y' := vb (!(a1 == a1))) (obx := []) (oby := []) (ob2 := []) _ _ (cy (I0 10 (.call 186 [(.t 9)]))) rfl (cmp_isNaN_string_ok n a1 y2 hy2) [] (by kernel_rfl) (.cons rfl (.cons rfl .nil)) (by kernel_rfl) (by kernel_rfl) ObsRen.nil (by kernel_rfl) ObsRen.nil (by kernel_rfl)) ?_
  refine jq 1 [(0, vt a0), (1, vt a1), (5, vb (!(a0 == a0))), (6, vb (!(a1 == a1)))] [] ?_
  refine TriE.seq ?_
  refine sr [(0, vt a0), (1, vt a1), (6, vb (!(a1 == a1))), (11, vb (!(a0 == a0)))] [] ?_
  refine TriE.cond (b := !(a0 == a0)) rfl (fun c1 => ?_) (fun c1 => ?_)
  · have h := cond_t h c1
    refine TriE.seq ?_
    refine sr [(12, vb (!(a1 == a1)))] [] ?_
    refine TriE.cond (b := !(a1 == a1)) rfl (fun c2 => ?_) (fun c2 => ?_)
    · have h := cond_t h c2
      refine sr [(4, vi 0)] [] ?_
      refine TriE.ret ?_
      have h := Option.some.inj h
      subst h
      exact DoneS.ret (S' := ⟨[(4, vi 0)], []⟩) Sees.refl rfl rfl
    have h := cond_f h c2
    refine TriE.skip ?_
    refine sr [(4, vi (-1))] [] ?_
    refine TriE.ret ?_
    have h := Option.some.inj h
    subst h
    exact DoneS.ret (S' := ⟨[(4, vi (-1))], []⟩) Sees.refl rfl rfl
  have h := cond_f h c1
  refine TriE.skip ?_
  refine TriE.seq ?_
  refine sr [(0, vt a0), (1, vt a1), (13, vb (!(a1 == a1)))] [] ?_
  refine TriE.cond (b := !(a1 == a1)) rfl (fun c3 => ?_) (fun c3 => ?_)
  · have h := cond_t h c3
    refine sr [(4, vi 1)] [] ?_
    refine TriE.ret ?_
    have h := Option.some.inj h
    subst h
    exact DoneS.ret (S' := ⟨[(4, vi 1)], []⟩) Sees.refl rfl rfl
  have h := cond_f h c3
  refine TriE.skip ?_
  refine TriE.seq ?_
  refine sr [(0, vt a0), (1, vt a1), (16, vb (bLt a0 a1))] [] ?_
  refine TriE.cond (b := bLt a0 a1) rfl (fun c4 => ?_) (fun c4 => ?_)
  · have h := cond_t h c4
    refine sr [(4, vi (-1))] [] ?_
    refine TriE.ret ?_
    have h := Option.some.inj h
    subst h
    exact DoneS.ret (S' := ⟨[(4, vi (-1))], []⟩) Sees.refl rfl rfl
  have h := cond_f h c4
  refine TriE.skip ?_
  refine TriE.seq ?_
  refine sr [(19, vb (!(bLt a0 a1 || (a0 == a1))))] [] ?_
  refine TriE.cond (b := !(bLt a0 a1 || (a0 == a1))) rfl (fun c5 => ?_) (fun c5 => ?_)
  · have h := cond_t h c5
    refine sr [(4, vi 1)] [] ?_
    refine TriE.ret ?_
    have h := Option.some.inj h
    subst h
    exact DoneS.ret (S' := ⟨[(4, vi 1)], []⟩) Sees.refl rfl rfl
  have h := cond_f h c5
  refine TriE.skip ?_
  refine sr [(4, vi 0)] [] ?_
  refine TriE.ret ?_
  have h := Option.some.inj h
  subst h
  exact DoneS.ret (S' := ⟨[(4, vi 0)], []⟩) Sees.refl rfl rfl
theorem slices_Compare_string_ok (n : Nat) (a0 : List Str) (a1 : List Str) (r : Int) (h : slices_Compare_string n a0 a1 = some r) : FnL Tryz.prog 138 [eS 1 vt a0, eS 1 vt a1] [] (vi r) [] := by
  dsimp only [slices_Compare_string] at h
  refine FnL.ofS (ts := [4]) Tryz.call138 Tryz.func138 rfl rfl (Nat.le_of_ble_eq_true rfl) (Nat.le_of_ble_eq_true rfl) (fun j h => absurd h (Nat.not_lt_zero j)) ?_
  refine sr [(0, eS 1 vt a0), (1, eS 1 vt a1)] [] ?_
  refine TriE.seqK h (fun (_ : Unit) => St.mk [(0, eS 1 vt a0), (1, eS 1 vt a1)] []) ?_ ?_
  · rintro ⟨⟩ h
    refine TriE.seq ?_
    refine sj ?_
    refine rn 1 [(1, eS 1 vt a1), (31, eS 1 vt a0)] [] ?_
    refine jv (vi (a0.length : Int)) (cy (I0 32 (.len 0 (.t 31)))) (ok_len_m rfl) rfl ?_
    refine rn 1 [(32, vi (a0.length : Int)), (33, eS 1 vt a1)] [] ?_
    refine jv (vi (a1.length : Int)) (cy (I0 34 (.len 0 (.t 33)))) (ok_len_m rfl) rfl ?_
    refine jv (vb (decide (a0.length < a1.length))) (cy (I0 35 (.bin .lss false (.t 32) (.t 34)))) (n_lss (i := a0.length) (j := a1.length) rfl rfl) rfl ?_
    refine jp [(35, vb (decide (a0.length < a1.length)))] ?_
    refine TriE.cond (b := decide (a0.length < a1.length)) rfl (fun c6 => ?_) (fun c6 => ?_)
    · have h := cond_t h c6
      refine sr [(4, vi (-1))] [] ?_
      refine TriE.ret ?_
      have h := Option.some.inj h
      subst h
      exact DoneS.ret (S' := ⟨[(4, vi (-1))], []⟩) Sees.refl rfl rfl
    have h := cond_f h c6
    refine TriE.skip ?_
    refine sr [(4, vi 0)] [] ?_
    refine TriE.ret ?_
    have h := Option.some.inj h
    subst h
    exact DoneS.ret (S' := ⟨[(4, vi 0)], []⟩) Sees.refl rfl rfl
  intro k1 h
  refine sj ?_
  refine rn 1 [(0, eS 1 vt a0), (1, eS 1 vt a1), (9, eS 1 vt a0)] [] ?_
  refine jv (vi (a0.length : Int)) (cy (I0 10 (.len 0 (.t 9)))) (ok_len_m rfl) rfl ?_
  refine jq 1 [(0, eS 1 vt a0), (1, eS 1 vt a1), (9, eS 1 vt a0), (10, vi (a0.length : Int)), (11, vi 0)] [] ?_
  refine TriE.block ?_
  refine TriE.sees (S' := ⟨[(0, eS 1 vt a0), (1, eS 1 vt a1), (9, eS 1 vt a0), (10, vi (a0.length : Int)), (11, vi 0)], []⟩) sy ?_
  refine TriE.loopN h (fun (v2 : Nat) => St.mk [(0, eS 1 vt a0), (1, eS 1 vt a1), (9, eS 1 vt a0), (10, vi (a0.length : Int)), (11, vi v2)] []) rfl ?_
  clear h
  rintro back v2 h
  dsimp only [slices_Compare_string_L1] at h
  refine sj ?_
  refine jv (vb (decide (v2 < a0.length))) (cy (I0 12 (.bin .lss false (.t 11) (.t 10)))) (n_lss (i := v2) (j := a0.length) rfl rfl) rfl ?_
  refine jp [(0, eS 1 vt a0), (1, eS 1 vt a1), (9, eS 1 vt a0), (10, vi (a0.length : Int)), (11, vi v2), (12, vb (decide (v2 < a0.length)))] ?_
  refine TriE.seq ?_
  refine TriE.cond (b := decide (v2 < a0.length)) rfl (fun c1 => ?_) (fun c1 => ?_)
  · have h := cond_t h c1
    refine TriE.skip ?_
    refine TriE.seq ?_
    refine TriE.block ?_
    refine sj ?_
    refine rn 1 [(0, eS 1 vt a0), (1, eS 1 vt a1), (9, eS 1 vt a0), (10, vi (a0.length : Int)), (11, vi v2), (13, vi v2)] [] ?_
    refine jv (.fptr 1 (List.map vt a0) v2 0) (cy (I0 14 (.iaddr 1 (.t 9) (.t 11)))) (ok_iaddr_m (j := v2) rfl rfl rfl c1) rfl ?_
    refine jv (vt (ix a0 v2)) (cy (I0 15 (.load false 1 (.t 14)))) (ok_load_fm (v := vt (ix a0 v2)) rfl c1 rfl) rfl ?_
    refine jq 2 [(0, eS 1 vt a0), (1, eS 1 vt a1), (9, eS 1 vt a0), (10, vi (a0.length : Int)), (11, vi v2), (5, vi v2), (6, vt (ix a0 v2))] [] ?_
    refine TriE.seq ?_
    refine sj ?_
    refine rn 2 [(0, eS 1 vt a0), (1, eS 1 vt a1), (9, eS 1 vt a0), (10, vi (a0.length : Int)), (11, vi v2), (5, vi v2), (6, vt (ix a0 v2)), (16, vi v2), (17, eS 1 vt a1)] [] ?_
    refine jv (vi (a1.length : Int)) (cy (I0 18 (.len 0 (.t 17)))) (ok_len_m rfl) rfl ?_
    refine jv (vb (decide (a1.length ≤ v2))) (cy (I0 19 (.bin .geq false (.t 16) (.t 18)))) (n_geq (i := v2) (j := a1.length) rfl rfl) rfl ?_
    refine jp [(0, eS 1 vt a0), (1, eS 1 vt a1), (9, eS 1 vt a0), (10, vi (a0.length : Int)), (11, vi v2), (5, vi v2), (6, vt (ix a0 v2)), (19, vb (decide (a1.length ≤ v2)))] ?_
    refine TriE.cond (b := decide (a1.length ≤ v2)) rfl (fun c2 => ?_) (fun c2 => ?_)
    · have h := cond_t h c2
      refine sr [(4, vi 1)] [] ?_
      refine TriE.ret ?_
      have h := Option.some.inj h
      subst h
      exact DoneS.ret (S' := ⟨[(4, vi 1)], []⟩) Sees.refl rfl rfl
    have h := cond_f h c2
    refine TriE.skip ?_
    refine sj ?_
    refine rn 2 [(0, eS 1 vt a0), (1, eS 1 vt a1), (9, eS 1 vt a0), (10, vi (a0.length : Int)), (11, vi v2), (6, vt (ix a0 v2)), (20, eS 1 vt a1), (21, vi v2)] [] ?_
    obtain ⟨c3, h⟩ := chk_some h
    refine jv (.fptr 1 (List.map vt a1) v2 0) (cy (I0 22 (.iaddr 1 (.t 20) (.t 21)))) (ok_iaddr_m (j := v2) rfl rfl rfl c3) rfl ?_
    refine jv (vt (ix a1 v2)) (cy (I0 23 (.load false 1 (.t 22)))) (ok_load_fm (v := vt (ix a1 v2)) rfl c3 rfl) rfl ?_
    refine jq 1 [(0, eS 1 vt a0), (1, eS 1 vt a1), (9, eS 1 vt a0), (10, vi (a0.length : Int)), (11, vi v2), (6, vt (ix a0 v2)), (7, vt (ix a1 v2))] [] ?_
    refine sj ?_
    refine rn 2 [(0, eS 1 vt a0), (1, eS 1 vt a1), (9, eS 1 vt a0), (10, vi (a0.length : Int)), (11, vi v2), (24, vt (ix a0 v2)), (25, vt (ix a1 v2))] [] ?_
    obtain ⟨y3, hy3, h⟩ := bind_some h
    refine RegJ.op (Op1.call (y' := vi y3) (obx := []) (oby := []) (ob2 := []) _ _ (cy (I0 26 (.call 145 [(.t 24), (.t 25)]))) rfl (cmp_Compare_string_ok n (ix a0 v2) (ix a1 v2) y3 hy3) [] (by kernel_rfl) (.cons rfl (.cons rfl (.cons rfl .nil))) (by kernel_rfl) (by kernel_rfl) ObsRen.nil (by kernel_rfl) ObsRen.nil (by kernel_rfl)) ?_
    refine jq 1 [(0, eS 1 vt a0), (1, eS 1 vt a1), (9, eS 1 vt a0), (10, vi (a0.length : Int)), (11, vi v2), (8, vi y3)] [] ?_
    refine sr [(0, eS 1 vt a0), (1, eS 1 vt a1), (9, eS 1 vt a0), (10, vi (a0.length : Int)), (11, vi v2), (8, vi y3), (28, vb (y3 != (0 : Int)))] [] ?_
    refine TriE.cond (b := (y3 != (0 : Int))) rfl (fun c4 => ?_) (fun c4 => ?_)
    · have h := cond_t h c4
      refine sr [(4, vi y3)] [] ?_
      refine TriE.ret ?_
      have h := Option.some.inj h
      subst h
      exact DoneS.ret (S' := ⟨[(4, vi y3)], []⟩) Sees.refl rfl rfl
    have h := cond_f h c4
    refine TriE.skip ?_
    refine TriE.regJ ?_
    obtain ⟨c5, h⟩ := chk_some h
    refine jv (vi ((v2 + 1 : Nat) : Int)) (cy (I0 30 (.bin .add false (.t 11) (.c (.p (.int .i64 1)))))) (r_addn (i := v2) (j := 1) rfl rfl c5) rfl ?_
    refine jq 1 [(0, eS 1 vt a0), (1, eS 1 vt a1), (9, eS 1 vt a0), (10, vi (a0.length : Int)), (11, vi ((v2 + 1 : Nat) : Int))] [] ?_
    exact Vs.intro sy ⟨(v2 + 1), rfl, h⟩
  have h := cond_f h c1
  refine TriE.exit ?_
  exact Vs.intro sy ⟨(), rfl, h⟩
theorem cmp_Or_int_ok (n : Nat) (a0 : List Int) (r : Int) (h : cmp_Or_int n a0 = some r) : FnL Tryz.prog 136 [.own 0 0 a0.length] [some (.row 1 (List.map vi a0))] (vi r) [some (.row 1 (List.map vi a0))] := by
  dsimp only [cmp_Or_int] at h
  refine FnL.ofS (ts := [2]) Tryz.call136 Tryz.func136 rfl rfl (Nat.le_of_ble_eq_true rfl) (Nat.le_of_ble_eq_true rfl) (hall_of (.cons rfl .nil)) ?_
  refine sr [(0, .own 0 0 a0.length)] [some (.row 1 (List.map vi a0))] ?_
  refine sr [(0, .own 0 0 a0.length), (3, vi 0)] [some (.row 1 (List.map vi a0))] ?_
  refine TriE.seqK h (fun (_ : Unit) => St.mk [(3, vi 0)] [some (.row 1 (List.map vi a0))]) ?_ ?_
  · rintro ⟨⟩ h
    refine sr [(2, vi 0)] [some (.row 1 (List.map vi a0))] ?_
    refine TriE.ret ?_
    have h := Option.some.inj h
    subst h
    exact DoneS.ret (S' := ⟨[(2, vi 0)], [some (.row 1 (List.map vi a0))]⟩) Sees.refl rfl rfl
  intro k1 h
  refine sr [(3, vi 0), (6, .own 0 0 a0.length), (7, vi (a0.length : Int)), (8, vi 0)] [some (.row 1 (List.map vi a0))] ?_
  refine TriE.block ?_
  refine TriE.sees (S' := ⟨[(3, vi 0), (6, .own 0 0 a0.length), (7, vi (a0.length : Int)), (8, vi 0)], [some (.row 1 (List.map vi a0))]⟩) sy ?_
  refine TriE.loopN h (fun (v1 : Nat) => St.mk [(3, vi 0), (6, .own 0 0 a0.length), (7, vi (a0.length : Int)), (8, vi v1)] [some (.row 1 (List.map vi a0))]) rfl ?_
  clear h
  rintro back v1 h
  dsimp only [cmp_Or_int_L1] at h
  refine sj ?_
  refine jv (vb (decide (v1 < a0.length))) (cy (I0 9 (.bin .lss false (.t 8) (.t 7)))) (n_lss (i := v1) (j := a0.length) rfl rfl) rfl ?_
  refine jp [(3, vi 0), (6, .own 0 0 a0.length), (7, vi (a0.length : Int)), (8, vi v1), (9, vb (decide (v1 < a0.length)))] ?_
  refine TriE.seq ?_
  refine TriE.cond (b := decide (v1 < a0.length)) rfl (fun c1 => ?_) (fun c1 => ?_)
  · have h := cond_t h c1
    refine TriE.skip ?_
    refine TriE.seq ?_
    refine TriE.block ?_
    refine sj ?_
    refine jv (.ptr 0 v1 0) (cy (I0 10 (.iaddr 1 (.t 6) (.t 8)))) (ok_iaddr_o0 (j := v1) rfl rfl rfl rfl c1) rfl ?_
    refine jv (vi (ix a0 v1)) (cy (I0 11 (.load false 1 (.t 10)))) (ok_load_pm (l := a0) (e := vi) (v := vi (ix a0 v1)) rfl rfl c1 rfl) rfl ?_
    refine jq 1 [(3, vi 0), (6, .own 0 0 a0.length), (7, vi (a0.length : Int)), (8, vi v1), (5, vi (ix a0 v1))] [some (.row 1 (List.map vi a0))] ?_
    refine sr [(3, vi 0), (6, .own 0 0 a0.length), (7, vi (a0.length : Int)), (8, vi v1), (5, vi (ix a0 v1)), (14, vb ((ix a0 v1) != (0 : Int)))] [some (.row 1 (List.map vi a0))] ?_
    refine TriE.cond (b := ((ix a0 v1) != (0 : Int))) rfl (fun c2 => ?_) (fun c2 => ?_)
    · have h := cond_t h c2
      refine sr [(2, vi (ix a0 v1))] [some (.row 1 (List.map vi a0))] ?_
      refine TriE.ret ?_
      have h := Option.some.inj h
      subst h
      exact DoneS.ret (S' := ⟨[(2, vi (ix a0 v1))], [some (.row 1 (List.map vi a0))]⟩) Sees.refl rfl rfl
    have h := cond_f h c2
    refine TriE.skip ?_
    refine TriE.regJ ?_
    obtain ⟨c3, h⟩ := chk_some h
    refine jv (vi ((v1 + 1 : Nat) : Int)) (cy (I0 16 (.bin .add false (.t 8) (.c (.p (.int .i64 1)))))) (r_addn (i := v1) (j := 1) rfl rfl c3) rfl ?_
    refine jq 1 [(3, vi 0), (6, .own 0 0 a0.length), (7, vi (a0.length : Int)), (8, vi ((v1 + 1 : Nat) : Int))] [some (.row 1 (List.map vi a0))] ?_
    exact Vs.intro sy ⟨(v1 + 1), rfl, h⟩
  have h := cond_f h c1
  refine TriE.exit ?_
  exact Vs.intro sy ⟨(), rfl, h⟩
theorem restore_Cheapest_ok (n : Nat) (a0 : List Task) (a1 : List Stocked) (a2 : List Str) (r : Int × (List Str) × Int) (h : restore_Cheapest n a0 a1 a2 = some r) : FnL Tryz.prog 65 [eS 6 eTask a0, eS 3 eStocked a1, eS 1 vt a2] [] (.tup [eS 1 vt r.2.1, vi r.2.2, vi r.1]) [] := by
  dsimp only [restore_Cheapest] at h
  refine FnL.ofS (ts := [6, 7, 8]) Tryz.call65 Tryz.func65 rfl rfl (Nat.le_of_ble_eq_true rfl) (Nat.le_of_ble_eq_true rfl) (fun j h => absurd h (Nat.not_lt_zero j)) ?_
  refine sr [(0, eS 6 eTask a0), (1, eS 3 eStocked a1), (2, eS 1 vt a2)] [] ?_
  refine TriE.seq ?_
  refine sj ?_
  refine rn 1 [(0, eS 6 eTask a0), (1, eS 3 eStocked a1), (2, eS 1 vt a2), (31, eS 6 eTask a0)] [] ?_
  obtain ⟨y1, hy1, h⟩ := bind_some h
  refine RegJ.op (Op1.call (y' := vi y1) (obx := []) (oby := []) (ob2 := []) _ _ (cy (I0 32 (.call 19 [(.t 31)]))) rfl (restore_CheckTasks_ok n a0 y1 hy1) [] (by kernel_rfl) (.cons rfl (.cons rfl .nil)) (by kernel_rfl) (by kernel_rfl) ObsRen.nil (by kernel_rfl) ObsRen.nil (by kernel_rfl)) ?_
  refine jq 1 [(0, eS 6 eTask a0), (1, eS 3 eStocked a1), (2, eS 1 vt a2), (9, vi y1)] [] ?_
  refine sr [(0, eS 6 eTask a0), (1, eS 3 eStocked a1), (2, eS 1 vt a2), (9, vi y1), (34, vb (y1 != (0 : Int)))] [] ?_
  refine TriE.cond (b := (y1 != (0 : Int))) rfl (fun c1 => ?_) (fun c1 => ?_)
  · have h := cond_t h c1
    refine sr [(6, .emp), (7, vi 0), (8, vi y1)] [] ?_
    refine TriE.ret ?_
    have h := Option.some.inj h
    subst h
    exact DoneS.ret (S' := ⟨[(6, eS 1 vt ([] : List Str)), (7, vi 0), (8, vi y1)], []⟩) (Sees.trans (Sees.vco (fr' := [(6, eS 1 vt ([] : List Str)), (7, vi 0), (8, vi y1)]) (.cons .sl (.cons .same (.cons .same .nil)))) sy) rfl rfl
  have h := cond_f h c1
  refine TriE.skip ?_
  refine TriE.seq ?_
  refine sj ?_
  refine rn 1 [(0, eS 6 eTask a0), (1, eS 3 eStocked a1), (2, eS 1 vt a2), (36, eS 3 eStocked a1)] [] ?_
  obtain ⟨y2, hy2, h⟩ := bind_some h
  refine RegJ.op (Op1.call (y' := vi y2) (obx := []) (oby := []) (ob2 := []) _ _ (cy (I0 37 (.call 22 [(.t 36)]))) rfl (restore_CheckStock_ok n a1 y2 hy2) [] (by kernel_rfl) (.cons rfl (.cons rfl .nil)) (by kernel_rfl) (by kernel_rfl) ObsRen.nil (by kernel_rfl) ObsRen.nil (by kernel_rfl)) ?_
  refine jq 1 [(0, eS 6 eTask a0), (1, eS 3 eStocked a1), (2, eS 1 vt a2), (10, vi y2)] [] ?_
  refine sr [(0, eS 6 eTask a0), (1, eS 3 eStocked a1), (2, eS 1 vt a2), (10, vi y2), (39, vb (y2 != (0 : Int)))] [] ?_
  refine TriE.cond (b := (y2 != (0 : Int))) rfl (fun c2 => ?_) (fun c2 => ?_)
  · have h := cond_t h c2
    refine sr [(6, .emp), (7, vi 0), (8, vi y2)] [] ?_
    refine TriE.ret ?_
    have h := Option.some.inj h
    subst h
    exact DoneS.ret (S' := ⟨[(6, eS 1 vt ([] : List Str)), (7, vi 0), (8, vi y2)], []⟩) (Sees.trans (Sees.vco (fr' := [(6, eS 1 vt ([] : List Str)), (7, vi 0), (8, vi y2)]) (.cons .sl (.cons .same (.cons .same .nil)))) sy) rfl rfl
  have h := cond_f h c2
  refine TriE.skip ?_
  refine sr [(0, eS 6 eTask a0), (1, eS 3 eStocked a1), (2, eS 1 vt a2), (11, eS 6 eTask a0)] [] ?_
  refine TriE.seq ?_
  refine sj ?_
  refine rn 2 [(0, eS 6 eTask a0), (1, eS 3 eStocked a1), (2, eS 1 vt a2), (11, eS 6 eTask a0), (42, eS 6 eTask a0), (43, eS 1 vt a2)] [] ?_
  obtain ⟨y3, hy3, h⟩ := bind_some h
  refine RegJ.op (Op1.call (y' := vi y3) (obx := []) (oby := []) (ob2 := []) _ _ (cy (I0 44 (.call 131 [(.t 42), (.t 43)]))) rfl (restore_list_checkSet_ok n a0 a2 y3 hy3) [] (by kernel_rfl) (.cons rfl (.cons rfl (.cons rfl .nil))) (by kernel_rfl) (by kernel_rfl) ObsRen.nil (by kernel_rfl) ObsRen.nil (by kernel_rfl)) ?_
  refine jq 1 [(0, eS 6 eTask a0), (1, eS 3 eStocked a1), (2, eS 1 vt a2), (11, eS 6 eTask a0), (12, vi y3)] [] ?_
  refine sr [(0, eS 6 eTask a0), (1, eS 3 eStocked a1), (2, eS 1 vt a2), (11, eS 6 eTask a0), (12, vi y3), (46, vb (y3 != (0 : Int)))] [] ?_
  refine TriE.cond (b := (y3 != (0 : Int))) rfl (fun c3 => ?_) (fun c3 => ?_)
  · have h := cond_t h c3
    refine sr [(6, .emp), (7, vi 0), (8, vi y3)] [] ?_
    refine TriE.ret ?_
    have h := Option.some.inj h
    subst h
    exact DoneS.ret (S' := ⟨[(6, eS 1 vt ([] : List Str)), (7, vi 0), (8, vi y3)], []⟩) (Sees.trans (Sees.vco (fr' := [(6, eS 1 vt ([] : List Str)), (7, vi 0), (8, vi y3)]) (.cons .sl (.cons .same (.cons .same .nil)))) sy) rfl rfl
  have h := cond_f h c3
  refine TriE.skip ?_
  refine sr [(0, eS 6 eTask a0), (1, eS 3 eStocked a1), (2, eS 1 vt a2), (11, eS 6 eTask a0), (13, .ptr 0 0 0)] [some (.row 3 [.agg [.emp, .emp, .emp]])] ?_
  refine TriE.seqK h (fun (v8 : (List Int)) => St.mk [(0, eS 6 eTask a0), (2, eS 1 vt a2), (11, eS 6 eTask a0), (13, .ptr 0 0 0)] [some (.row 3 [.agg [.emp, .emp, .own 1 0 v8.length]]), some (.row 1 (List.map vi v8))]) ?_ ?_
  · rintro v8 h
    refine TriE.seq ?_
    refine sj ?_
    refine rn 1 [(0, eS 6 eTask a0), (2, eS 1 vt a2), (11, eS 6 eTask a0), (13, .ptr 0 0 0), (75, eS 6 eTask a0)] [some (.row 3 [.agg [.emp, .emp, .own 1 0 v8.length]]), some (.row 1 (List.map vi v8))] ?_
    refine jv (vi (a0.length : Int)) (cy (I0 76 (.len 0 (.t 75)))) (ok_len_m rfl) rfl ?_
    refine jv (vb (decide (14 < a0.length))) (cy (I0 77 (.bin .gtr false (.t 76) (.c (.p (.int .i64 14)))))) (n_gtr (i := a0.length) (j := 14) rfl rfl) rfl ?_
    refine jp [(0, eS 6 eTask a0), (2, eS 1 vt a2), (11, eS 6 eTask a0), (13, .ptr 0 0 0), (77, vb (decide (14 < a0.length)))] ?_
    refine TriE.cond (b := decide (14 < a0.length)) rfl (fun c8 => ?_) (fun c8 => ?_)
    · have h := cond_t h c8
      refine sr [(6, .emp), (7, vi 0), (8, vi 8)] [some (.row 3 [.agg [.emp, .emp, .own 1 0 v8.length]]), some (.row 1 (List.map vi v8))] ?_
      refine TriE.ret ?_
      have h := Option.some.inj h
      subst h
      exact DoneS.ret (S' := ⟨[(6, eS 1 vt ([] : List Str)), (7, vi 0), (8, vi 8)], []⟩) (Sees.trans (Sees.vco (fr' := [(6, eS 1 vt ([] : List Str)), (7, vi 0), (8, vi 8)]) (.cons .sl (.cons .same (.cons .same .nil)))) (sc [] (by decide) (by kernel_rfl) ObRen.nil rfl rfl)) rfl rfl
    have h := cond_f h c8
    refine TriE.skip ?_
    refine TriE.seqK h (fun (t : (List (List Int)) × (List Int)) => match t with | (v24, v25) => St.mk [(0, eS 6 eTask a0), (2, eS 1 vt a2), (11, eS 6 eTask a0), (13, .ptr 0 0 0)] [some (.row 3 [.agg [.own 2 0 v25.length, .own 3 0 v24.length, .own 1 0 v8.length]]), some (.row 1 (List.map vi v8)), some (.row 1 (List.map (vk .u64) v25)), some (.row 1 (List.map (eS 1 (vk .u64)) v24))]) ?_ ?_
    · rintro ⟨v24, v25⟩ h
      refine sr [(0, eS 6 eTask a0), (2, eS 1 vt a2), (11, eS 6 eTask a0), (13, .ptr 0 0 0), (23, .emp), (24, vi (-1))] [some (.row 3 [.agg [.own 2 0 v25.length, .own 3 0 v24.length, .own 1 0 v8.length]]), some (.row 1 (List.map vi v8)), some (.row 1 (List.map (vk .u64) v25)), some (.row 1 (List.map (eS 1 (vk .u64)) v24))] ?_
      refine sj ?_
      refine rn 2 [(0, eS 6 eTask a0), (11, eS 6 eTask a0), (13, .ptr 0 0 0), (23, .emp), (24, vi (-1)), (122, eS 6 eTask a0), (123, eS 1 vt a2)] [some (.row 3 [.agg [.own 2 0 v25.length, .own 3 0 v24.length, .own 1 0 v8.length]]), some (.row 1 (List.map vi v8)), some (.row 1 (List.map (vk .u64) v25)), some (.row 1 (List.map (eS 1 (vk .u64)) v24))] ?_
      obtain ⟨y26, hy26, h⟩ := bind_some h
      refine RegJ.op (Op1.call (y' := vk .u64 y26) (obx := []) (oby := []) (ob2 := [some (.row 3 [.agg [.own 2 0 v25.length, .own 3 0 v24.length, .own 1 0 v8.length]]), some (.row 1 (List.map vi v8)), some (.row 1 (List.map (vk .u64) v25)), some (.row 1 (List.map (eS 1 (vk .u64)) v24))]) _ _ (cy (I0 124 (.call 133 [(.t 122), (.t 123)]))) rfl (restore_list_bits_ok n a0 a2 y26 hy26) [] (by kernel_rfl) (.cons rfl (.cons rfl (.cons rfl .nil))) (by kernel_rfl) (by kernel_rfl) ObsRen.nil (by kernel_rfl) ObsRen.nil (by kernel_rfl)) ?_
      refine jq 1 [(0, eS 6 eTask a0), (11, eS 6 eTask a0), (13, .ptr 0 0 0), (23, .emp), (24, vi (-1)), (25, vk .u64 y26)] [some (.row 3 [.agg [.own 2 0 v25.length, .own 3 0 v24.length, .own 1 0 v8.length]]), some (.row 1 (List.map vi v8)), some (.row 1 (List.map (vk .u64) v25)), some (.row 1 (List.map (eS 1 (vk .u64)) v24))] ?_
      refine TriE.seqK h (fun (t : (List Str) × Int) => match t with | (v64, v65) => St.mk [(23, eS 1 vt v64), (24, vi v65)] []) ?_ ?_
      · rintro ⟨v64, v65⟩ h
        refine sr [(6, eS 1 vt v64), (7, vi v65), (8, vi 0)] [] ?_
        refine TriE.ret ?_
        have h := Option.some.inj h
        subst h
        exact DoneS.ret (S' := ⟨[(6, eS 1 vt v64), (7, vi v65), (8, vi 0)], []⟩) Sees.refl rfl rfl
      intro k8 h
      refine sj ?_
      refine rn 1 [(11, eS 6 eTask a0), (13, .ptr 0 0 0), (23, .emp), (24, vi (-1)), (25, vk .u64 y26), (125, eS 6 eTask a0)] [some (.row 3 [.agg [.own 2 0 v25.length, .own 3 0 v24.length, .own 1 0 v8.length]]), some (.row 1 (List.map vi v8)), some (.row 1 (List.map (vk .u64) v25)), some (.row 1 (List.map (eS 1 (vk .u64)) v24))] ?_
      refine jv (vi (a0.length : Int)) (cy (I0 126 (.len 0 (.t 125)))) (ok_len_m rfl) rfl ?_
      obtain ⟨c17, h⟩ := chk_some h
      refine jv (vk .u64 (IntKind.u64.wrap (1 * 2 ^ (min (a0.length : Int).toNat 64)))) (cy (I0 127 (.bin .shl false (.c (.p (.int .u64 1))) (.t 126)))) (r_shl rfl rfl c17) rfl ?_
      refine jq 1 [(11, eS 6 eTask a0), (13, .ptr 0 0 0), (23, .emp), (24, vi (-1)), (25, vk .u64 y26), (127, vk .u64 (IntKind.u64.wrap (1 * 2 ^ (min (a0.length : Int).toNat 64)))), (128, vk .u64 0)] [some (.row 3 [.agg [.own 2 0 v25.length, .own 3 0 v24.length, .own 1 0 v8.length]]), some (.row 1 (List.map vi v8)), some (.row 1 (List.map (vk .u64) v25)), some (.row 1 (List.map (eS 1 (vk .u64)) v24))] ?_
      refine TriE.block ?_
      refine TriE.sees (S' := ⟨[(11, eS 6 eTask a0), (13, .ptr 0 0 0), (23, eS 1 vt ([] : List Str)), (24, vi (-1)), (25, vk .u64 y26), (127, vk .u64 (IntKind.u64.wrap (1 * 2 ^ (min (a0.length : Int).toNat 64)))), (128, vk .u64 0)], [some (.row 3 [.agg [.own 2 0 v25.length, .own 3 0 v24.length, .own 1 0 v8.length]]), some (.row 1 (List.map vi v8)), some (.row 1 (List.map (vk .u64) v25)), some (.row 1 (List.map (eS 1 (vk .u64)) v24))]⟩) (Sees.trans (Sees.vco (fr' := [(11, eS 6 eTask a0), (13, .ptr 0 0 0), (23, eS 1 vt ([] : List Str)), (24, vi (-1)), (25, vk .u64 y26), (127, vk .u64 (IntKind.u64.wrap (1 * 2 ^ (min (a0.length : Int).toNat 64)))), (128, vk .u64 0)]) (.cons .same (.cons .same (.cons .sl (.cons .same (.cons .same (.cons .same (.cons .same .nil)))))))) sy) ?_
      refine TriE.loopN h (fun (t : (List Str) × Int × Int) => match t with | (v44, v45, v46) => St.mk [(11, eS 6 eTask a0), (13, .ptr 0 0 0), (23, eS 1 vt v44), (24, vi v45), (25, vk .u64 y26), (127, vk .u64 (IntKind.u64.wrap (1 * 2 ^ (min (a0.length : Int).toNat 64)))), (128, vk .u64 v46)] [some (.row 3 [.agg [.own 2 0 v25.length, .own 3 0 v24.length, .own 1 0 v8.length]]), some (.row 1 (List.map vi v8)), some (.row 1 (List.map (vk .u64) v25)), some (.row 1 (List.map (eS 1 (vk .u64)) v24))]) rfl ?_
      clear h
      rintro back ⟨v44, v45, v46⟩ h
      dsimp only [restore_Cheapest_L5] at h
      refine sr [(11, eS 6 eTask a0), (13, .ptr 0 0 0), (23, eS 1 vt v44), (24, vi v45), (25, vk .u64 y26), (127, vk .u64 (IntKind.u64.wrap (1 * 2 ^ (min (a0.length : Int).toNat 64)))), (128, vk .u64 v46), (129, vb (decide (v46 < (IntKind.u64.wrap (1 * 2 ^ (min (a0.length : Int).toNat 64))))))] [some (.row 3 [.agg [.own 2 0 v25.length, .own 3 0 v24.length, .own 1 0 v8.length]]), some (.row 1 (List.map vi v8)), some (.row 1 (List.map (vk .u64) v25)), some (.row 1 (List.map (eS 1 (vk .u64)) v24))] ?_
      refine TriE.seq ?_
      refine TriE.cond (b := decide (v46 < (IntKind.u64.wrap (1 * 2 ^ (min (a0.length : Int).toNat 64))))) rfl (fun c18 => ?_) (fun c18 => ?_)
      · have h := cond_t h c18
        refine TriE.skip ?_
        refine TriE.seqK h (fun (t : (List Str) × Int) => match t with | (v62, v63) => St.mk [(11, eS 6 eTask a0), (13, .ptr 0 0 0), (23, eS 1 vt v62), (24, vi v63), (25, vk .u64 y26), (127, vk .u64 (IntKind.u64.wrap (1 * 2 ^ (min (a0.length : Int).toNat 64)))), (128, vk .u64 v46)] [some (.row 3 [.agg [.own 2 0 v25.length, .own 3 0 v24.length, .own 1 0 v8.length]]), some (.row 1 (List.map vi v8)), some (.row 1 (List.map (vk .u64) v25)), some (.row 1 (List.map (eS 1 (vk .u64)) v24))]) ?_ ?_
        · rintro ⟨v62, v63⟩ h
          refine tr [(11, eS 6 eTask a0), (13, .ptr 0 0 0), (23, eS 1 vt v62), (24, vi v63), (25, vk .u64 y26), (127, vk .u64 (IntKind.u64.wrap (1 * 2 ^ (min (a0.length : Int).toNat 64)))), (128, vk .u64 (IntKind.u64.wrap (v46 + 1)))] [some (.row 3 [.agg [.own 2 0 v25.length, .own 3 0 v24.length, .own 1 0 v8.length]]), some (.row 1 (List.map vi v8)), some (.row 1 (List.map (vk .u64) v25)), some (.row 1 (List.map (eS 1 (vk .u64)) v24))] ?_
          exact Vs.intro Sees.refl ⟨(v62, v63, IntKind.u64.wrap (v46 + 1)), rfl, h⟩
        intro k7 h
        refine TriE.block ?_
        refine sr [(11, eS 6 eTask a0), (13, .ptr 0 0 0), (23, eS 1 vt v44), (24, vi v45), (25, vk .u64 y26), (127, vk .u64 (IntKind.u64.wrap (1 * 2 ^ (min (a0.length : Int).toNat 64)))), (128, vk .u64 v46), (26, vk .u64 v46)] [some (.row 3 [.agg [.own 2 0 v25.length, .own 3 0 v24.length, .own 1 0 v8.length]]), some (.row 1 (List.map vi v8)), some (.row 1 (List.map (vk .u64) v25)), some (.row 1 (List.map (eS 1 (vk .u64)) v24))] ?_
        refine TriE.seq ?_
        refine sj ?_
        refine rn 5 [(11, eS 6 eTask a0), (13, .ptr 0 0 0), (23, eS 1 vt v44), (24, vi v45), (25, vk .u64 y26), (127, vk .u64 (IntKind.u64.wrap (1 * 2 ^ (min (a0.length : Int).toNat 64)))), (128, vk .u64 v46), (26, vk .u64 v46), (135, vb ((iAndNot .u64 y26 v46) != (0 : Int)))] [some (.row 3 [.agg [.own 2 0 v25.length, .own 3 0 v24.length, .own 1 0 v8.length]]), some (.row 1 (List.map vi v8)), some (.row 1 (List.map (vk .u64) v25)), some (.row 1 (List.map (eS 1 (vk .u64)) v24))] ?_
        refine RegJ.op (Op1.valk (v := .ptr 0 0 0) _ _ (cy (IG 136 (.mov (.t 13)) 135 false)) rfl (by kernel_rfl) (fun hg => (.cons rfl .nil))) ?_
        refine RegJ.op (Op1.valk (v := vk .u64 v46) _ _ (cy (IG 137 (.mov (.t 26)) 135 false)) rfl (by kernel_rfl) (fun hg => (.cons rfl .nil))) ?_
        obtain ⟨y47, hy47, h⟩ := bind_some h
        refine RegJ.op (Op1.callg (g := !((iAndNot .u64 y26 v46) != (0 : Int))) (y' := vb y47) (obx := [some (.row 3 [.agg [.own 2 0 v25.length, .own 3 0 v24.length, .own 1 0 v8.length]]), some (.row 1 (List.map (vk .u64) v25)), some (.row 1 (List.map (eS 1 (vk .u64)) v24)), some (.row 1 (List.map vi v8))]) _ _ (cy (IG 138 (.call 134 [(.t 136), (.t 137)]) 135 false)) rfl (fun hg => restore_choice_closed_ok n v25 v24 v8 v46 y47 (gcall_some hy47 hg)) [0, 2, 3, 1] (fun hg => by kernel_rfl) (fun hg => (.cons rfl (.cons hg (.cons hg .nil)))) (by kernel_rfl) (by kernel_rfl) (.cons rfl (.same (row_ren (vk_frz .u64) _ _ _) (.same (row_ren (eS_frz 1 (vk .u64)) _ _ _) (.same (row_ren vi_frz _ _ _) .nil)))) (by kernel_rfl) (by kernel_rfl)) ?_
        refine RegJ.op (Op1.valk (v := vb (!y47)) _ _ (cy (IG 139 (.un .not (.t 138)) 135 false)) rfl (by kernel_rfl) (fun hg => (.cons hg .nil))) ?_
        refine RegJ.op (Op1.or (cy (I0 140 (.pick (.t 135) (.c (.p (.bool true))) (.t 139)))) rfl rfl (by first | exact hokO1 | exact hokO0 | simp)) ?_
        refine jp [(11, eS 6 eTask a0), (13, .ptr 0 0 0), (23, eS 1 vt v44), (24, vi v45), (25, vk .u64 y26), (127, vk .u64 (IntKind.u64.wrap (1 * 2 ^ (min (a0.length : Int).toNat 64)))), (128, vk .u64 v46), (26, vk .u64 v46), (140, vb (((iAndNot .u64 y26 v46) != (0 : Int)) || (!y47)))] ?_
        refine TriE.cond (b := ((iAndNot .u64 y26 v46) != (0 : Int)) || (!y47)) rfl (fun c19 => ?_) (fun c19 => ?_)
        · have h := cond_t h c19
          refine TriE.exit ?_
          exact Vs.intro sy ⟨(v44, v45), rfl, h⟩
        have h := cond_f h c19
        refine TriE.skip ?_
        refine sr [(11, eS 6 eTask a0), (13, .ptr 0 0 0), (23, eS 1 vt v44), (24, vi v45), (25, vk .u64 y26), (127, vk .u64 (IntKind.u64.wrap (1 * 2 ^ (min (a0.length : Int).toNat 64)))), (128, vk .u64 v46), (26, vk .u64 v46), (27, vi 0)] [some (.row 3 [.agg [.own 2 0 v25.length, .own 3 0 v24.length, .own 1 0 v8.length]]), some (.row 1 (List.map vi v8)), some (.row 1 (List.map (vk .u64) v25)), some (.row 1 (List.map (eS 1 (vk .u64)) v24))] ?_
        refine TriE.seqK h (fun (v52 : Int) => St.mk [(11, eS 6 eTask a0), (13, .ptr 0 0 0), (23, eS 1 vt v44), (24, vi v45), (25, vk .u64 y26), (127, vk .u64 (IntKind.u64.wrap (1 * 2 ^ (min (a0.length : Int).toNat 64)))), (128, vk .u64 v46), (26, vk .u64 v46), (27, vi v52)] [some (.row 3 [.agg [.own 2 0 v25.length, .own 3 0 v24.length, .own 1 0 v8.length]]), some (.row 1 (List.map vi v8)), some (.row 1 (List.map (vk .u64) v25)), some (.row 1 (List.map (eS 1 (vk .u64)) v24))]) ?_ ?_
        · rintro v52 h
          refine sj ?_
          refine rn 2 [(11, eS 6 eTask a0), (13, .ptr 0 0 0), (23, eS 1 vt v44), (24, vi v45), (25, vk .u64 y26), (127, vk .u64 (IntKind.u64.wrap (1 * 2 ^ (min (a0.length : Int).toNat 64)))), (128, vk .u64 v46), (27, vi v52), (160, eS 6 eTask a0), (161, vk .u64 v46)] [some (.row 3 [.agg [.own 2 0 v25.length, .own 3 0 v24.length, .own 1 0 v8.length]]), some (.row 1 (List.map vi v8)), some (.row 1 (List.map (vk .u64) v25)), some (.row 1 (List.map (eS 1 (vk .u64)) v24))] ?_
          obtain ⟨y53, hy53, h⟩ := bind_some h
          refine RegJ.op (Op1.call (y' := eS 1 vt y53) (obx := []) (oby := []) (ob2 := [some (.row 3 [.agg [.own 2 0 v25.length, .own 3 0 v24.length, .own 1 0 v8.length]]), some (.row 1 (List.map vi v8)), some (.row 1 (List.map (vk .u64) v25)), some (.row 1 (List.map (eS 1 (vk .u64)) v24))]) _ _ (cy (I0 162 (.call 135 [(.t 160), (.t 161)]))) rfl (restore_list_names_ok n a0 v46 y53 hy53) [] (by kernel_rfl) (.cons rfl (.cons rfl (.cons rfl .nil))) (by kernel_rfl) (by kernel_rfl) ObsRen.nil (by kernel_rfl) ObsRen.nil (by kernel_rfl)) ?_
          refine jq 1 [(11, eS 6 eTask a0), (13, .ptr 0 0 0), (23, eS 1 vt v44), (24, vi v45), (25, vk .u64 y26), (127, vk .u64 (IntKind.u64.wrap (1 * 2 ^ (min (a0.length : Int).toNat 64)))), (128, vk .u64 v46), (27, vi v52), (30, eS 1 vt y53)] [some (.row 3 [.agg [.own 2 0 v25.length, .own 3 0 v24.length, .own 1 0 v8.length]]), some (.row 1 (List.map vi v8)), some (.row 1 (List.map (vk .u64) v25)), some (.row 1 (List.map (eS 1 (vk .u64)) v24))] ?_
          refine TriE.seqK h (fun (v60 : Bool) => St.mk [(11, eS 6 eTask a0), (13, .ptr 0 0 0), (23, eS 1 vt v44), (24, vi v45), (25, vk .u64 y26), (127, vk .u64 (IntKind.u64.wrap (1 * 2 ^ (min (a0.length : Int).toNat 64)))), (128, vk .u64 v46), (27, vi v52), (30, eS 1 vt y53), (180, vb v60)] [some (.row 3 [.agg [.own 2 0 v25.length, .own 3 0 v24.length, .own 1 0 v8.length]]), some (.row 1 (List.map vi v8)), some (.row 1 (List.map (vk .u64) v25)), some (.row 1 (List.map (eS 1 (vk .u64)) v24))]) ?_ ?_
          · rintro v60 h
            refine TriE.cond (b := v60) rfl (fun c26 => ?_) (fun c26 => ?_)
            · have h := cond_t h c26
              refine tr [(11, eS 6 eTask a0), (13, .ptr 0 0 0), (25, vk .u64 y26), (127, vk .u64 (IntKind.u64.wrap (1 * 2 ^ (min (a0.length : Int).toNat 64)))), (128, vk .u64 v46), (23, eS 1 vt y53), (24, vi v52)] [some (.row 3 [.agg [.own 2 0 v25.length, .own 3 0 v24.length, .own 1 0 v8.length]]), some (.row 1 (List.map vi v8)), some (.row 1 (List.map (vk .u64) v25)), some (.row 1 (List.map (eS 1 (vk .u64)) v24))] ?_
              exact Vs.intro sy ⟨(y53, v52), rfl, h⟩
            have h := cond_f h c26
            refine TriE.skip ?_
            exact Vs.intro sy ⟨(v44, v45), rfl, h⟩
          intro k6 h
          refine TriE.regJ ?_
          refine rn 3 [(11, eS 6 eTask a0), (13, .ptr 0 0 0), (23, eS 1 vt v44), (24, vi v45), (25, vk .u64 y26), (127, vk .u64 (IntKind.u64.wrap (1 * 2 ^ (min (a0.length : Int).toNat 64)))), (128, vk .u64 v46), (27, vi v52), (30, eS 1 vt y53), (165, vb (decide (v45 < (0 : Int))))] [some (.row 3 [.agg [.own 2 0 v25.length, .own 3 0 v24.length, .own 1 0 v8.length]]), some (.row 1 (List.map vi v8)), some (.row 1 (List.map (vk .u64) v25)), some (.row 1 (List.map (eS 1 (vk .u64)) v24))] ?_
          refine RegJ.op (Op1.valk (v := vi v52) _ _ (cy (IG 166 (.mov (.t 27)) 165 false)) rfl (by kernel_rfl) (fun hg => (.cons rfl .nil))) ?_
          refine RegJ.op (Op1.valk (v := vi v45) _ _ (cy (IG 167 (.mov (.t 24)) 165 false)) rfl (by kernel_rfl) (fun hg => (.cons rfl .nil))) ?_
          obtain ⟨y54, hy54, h⟩ := bind_some h
          refine RegJ.op (Op1.callg (g := !(decide (v45 < (0 : Int)))) (y' := vi y54) (obx := []) _ _ (cy (IG 168 (.call 137 [(.t 166), (.t 167)]) 165 false)) rfl (fun hg => cmp_Compare_int_ok n v52 v45 y54 (gcall_some hy54 hg)) [] (fun hg => by kernel_rfl) (fun hg => (.cons rfl (.cons hg (.cons hg .nil)))) (by kernel_rfl) (by kernel_rfl) ObsRen.nil (by kernel_rfl) (by kernel_rfl)) ?_
          refine RegJ.op (Op1.valk (v := eS 1 vt y53) _ _ (cy (IG 169 (.mov (.t 30)) 165 false)) rfl (by kernel_rfl) (fun hg => (.cons rfl .nil))) ?_
          refine RegJ.op (Op1.valg (v := vi (y53.length : Int)) _ _ (cy (IG 170 (.len 0 (.t 169)) 165 false)) rfl (fun hg => (ok_len_m rfl)) (fun hg => (.cons hg .nil))) ?_
          refine RegJ.op (Op1.valk (v := eS 1 vt v44) _ _ (cy (IG 171 (.mov (.t 23)) 165 false)) rfl (by kernel_rfl) (fun hg => (.cons rfl .nil))) ?_
          refine RegJ.op (Op1.valg (v := vi (v44.length : Int)) _ _ (cy (IG 172 (.len 0 (.t 171)) 165 false)) rfl (fun hg => (ok_len_m rfl)) (fun hg => (.cons hg .nil))) ?_
          obtain ⟨y55, hy55, h⟩ := bind_some h
          refine RegJ.op (Op1.callg (g := !(decide (v45 < (0 : Int)))) (y' := vi y55) (obx := []) _ _ (cy (IG 173 (.call 137 [(.t 170), (.t 172)]) 165 false)) rfl (fun hg => cmp_Compare_int_ok n (y53.length : Int) (v44.length : Int) y55 (gcall_some hy55 hg)) [] (fun hg => by kernel_rfl) (fun hg => (.cons rfl (.cons hg (.cons hg .nil)))) (by kernel_rfl) (by kernel_rfl) ObsRen.nil (by kernel_rfl) (by kernel_rfl)) ?_
          refine RegJ.op (Op1.valk (v := eS 1 vt y53) _ _ (cy (IG 174 (.mov (.t 30)) 165 false)) rfl (by kernel_rfl) (fun hg => (.cons rfl .nil))) ?_
          refine RegJ.op (Op1.valk (v := eS 1 vt v44) _ _ (cy (IG 175 (.mov (.t 23)) 165 false)) rfl (by kernel_rfl) (fun hg => (.cons rfl .nil))) ?_
          obtain ⟨y56, hy56, h⟩ := bind_some h
          refine RegJ.op (Op1.callg (g := !(decide (v45 < (0 : Int)))) (y' := vi y56) (obx := []) _ _ (cy (IG 176 (.call 138 [(.t 174), (.t 175)]) 165 false)) rfl (fun hg => slices_Compare_string_ok n y53 v44 y56 (gcall_some hy56 hg)) [] (fun hg => by kernel_rfl) (fun hg => (.cons rfl (.cons hg (.cons hg .nil)))) (by kernel_rfl) (by kernel_rfl) ObsRen.nil (by kernel_rfl) (by kernel_rfl)) ?_
          rcases Bool.eq_false_or_eq_true (!(decide (v45 < (0 : Int)))) with c25 | c25
          · have h := cond_t h c25
            refine RegJ.op (Op1.effk (v := .own 4 0 3) (ob' := [some (.row 3 [.agg [.own 2 0 v25.length, .own 3 0 v24.length, .own 1 0 v8.length]]), some (.row 1 (List.map vi v8)), some (.row 1 (List.map (vk .u64) v25)), some (.row 1 (List.map (eS 1 (vk .u64)) v24)), some (.row 1 [vi y54, vi y55, vi y56])]) _ _ (cy (IG 177 (.bslice 1 (.p (.int .i64 0)) 3 [(0, (.t 168)), (1, (.t 173)), (2, (.t 176))]) 165 false)) (congrArg some c25) (by kernel_rfl) (.cons c25 (.cons c25 (.cons c25 .nil)))) ?_
            obtain ⟨y57, hy57, h⟩ := bind_some h
            refine RegJ.op (Op1.call (y' := vi y57) (obx := [some (.row 1 [vi y54, vi y55, vi y56])]) (oby := [some (.row 1 (List.map vi ([y54, y55, y56] : List Int)))]) (ob2 := [some (.row 3 [.agg [.own 2 0 v25.length, .own 3 0 v24.length, .own 1 0 v8.length]]), some (.row 1 (List.map vi v8)), some (.row 1 (List.map (vk .u64) v25)), some (.row 1 (List.map (eS 1 (vk .u64)) v24)), some (.row 1 (List.map vi ([y54, y55, y56] : List Int)))]) _ _ (cy (IG 178 (.call 136 [(.t 177)]) 165 false)) (congrArg some c25) (cmp_Or_int_ok n ([y54, y55, y56] : List Int) y57 hy57) [4] (by kernel_rfl) (.cons rfl (.cons rfl .nil)) (by kernel_rfl) (by kernel_rfl) (.same (row_ren vi_frz _ _ _) .nil) (by kernel_rfl) (.same (row_ren vi_frz _ _ _) .nil) (by kernel_rfl)) ?_
            refine RegJ.op (Op1.effk (v := vb (decide (y57 < (0 : Int)))) (ob' := [some (.row 3 [.agg [.own 2 0 v25.length, .own 3 0 v24.length, .own 1 0 v8.length]]), some (.row 1 (List.map vi v8)), some (.row 1 (List.map (vk .u64) v25)), some (.row 1 (List.map (eS 1 (vk .u64)) v24)), some (.row 1 (List.map vi ([y54, y55, y56] : List Int)))]) _ _ (cy (IG 179 (.bin .lss false (.t 178) (.c (.p (.int .i64 0)))) 165 false)) (congrArg some c25) (by kernel_rfl) (.cons rfl (.cons rfl .nil))) ?_
            refine RegJ.op (Op1.or (cy (I0 180 (.pick (.t 165) (.c (.p (.bool true))) (.t 179)))) rfl rfl (by first | exact hokO1 | exact hokO0 | simp)) ?_
            refine jp [(11, eS 6 eTask a0), (13, .ptr 0 0 0), (23, eS 1 vt v44), (24, vi v45), (25, vk .u64 y26), (127, vk .u64 (IntKind.u64.wrap (1 * 2 ^ (min (a0.length : Int).toNat 64)))), (128, vk .u64 v46), (27, vi v52), (30, eS 1 vt y53), (177, .own 4 0 3), (178, vi y57), (179, vb (decide (y57 < (0 : Int)))), (180, vb ((decide (v45 < (0 : Int))) || (decide (y57 < (0 : Int)))))] ?_
            exact Vs.intro (sc [0, 1, 2, 3] (by decide) (by kernel_rfl) (.cons rfl (obRen_row vi_frz rfl (obRen_row (vk_frz .u64) rfl (obRen_row (eS_frz 1 (vk .u64)) rfl .nil)))) rfl rfl) ⟨((decide (v45 < (0 : Int))) || (decide (y57 < (0 : Int)))), rfl, h⟩
          have h := cond_f h c25
          refine RegJ.op (Op1.skipc (g := !(decide (v45 < (0 : Int)))) (v := vb false) (by kernel_rfl : compAt _ _ _ _ = some ⟨(some 177), .bslice 1 (.p (.int .i64 0)) 3 [(0, (.t 168)), (1, (.t 173)), (2, (.t 176))], (some (165, false)), [(.t 168), (.t 173), (.t 176)], 0⟩) rfl c25) ?_
          refine RegJ.op (Op1.skipc (g := !(decide (v45 < (0 : Int)))) (v := vb false) (by kernel_rfl : compAt _ _ _ _ = some ⟨(some 178), .call 136 [(.t 177)], (some (165, false)), [(.c (.fn (.func 136) [] [])), (.t 177)], 2⟩) rfl c25) ?_
          refine RegJ.op (Op1.skipc (g := !(decide (v45 < (0 : Int)))) (v := vb false) (by kernel_rfl : compAt _ _ _ _ = some ⟨(some 179), .bin .lss false (.t 178) (.c (.p (.int .i64 0))), (some (165, false)), [(.t 178), (.c (.p (.int .i64 0)))], 0⟩) rfl c25) ?_
          refine RegJ.op (Op1.or (cy (I0 180 (.pick (.t 165) (.c (.p (.bool true))) (.t 179)))) rfl rfl (by first | exact hokO1 | exact hokO0 | simp)) ?_
          refine jp [(11, eS 6 eTask a0), (13, .ptr 0 0 0), (23, eS 1 vt v44), (24, vi v45), (25, vk .u64 y26), (127, vk .u64 (IntKind.u64.wrap (1 * 2 ^ (min (a0.length : Int).toNat 64)))), (128, vk .u64 v46), (27, vi v52), (30, eS 1 vt y53), (180, vb ((decide (v45 < (0 : Int))) || false))] ?_
          exact Vs.intro Sees.refl ⟨((decide (v45 < (0 : Int))) || false), rfl, h⟩
        intro k5 h
        refine sr [(11, eS 6 eTask a0), (13, .ptr 0 0 0), (23, eS 1 vt v44), (24, vi v45), (25, vk .u64 y26), (127, vk .u64 (IntKind.u64.wrap (1 * 2 ^ (min (a0.length : Int).toNat 64)))), (128, vk .u64 v46), (26, vk .u64 v46), (27, vi 0), (144, .own 1 0 v8.length), (145, vi (v8.length : Int)), (146, vi 0)] [some (.row 3 [.agg [.own 2 0 v25.length, .own 3 0 v24.length, .own 1 0 v8.length]]), some (.row 1 (List.map vi v8)), some (.row 1 (List.map (vk .u64) v25)), some (.row 1 (List.map (eS 1 (vk .u64)) v24))] ?_
        refine TriE.block ?_
        refine TriE.sees (S' := ⟨[(11, eS 6 eTask a0), (13, .ptr 0 0 0), (23, eS 1 vt v44), (24, vi v45), (25, vk .u64 y26), (127, vk .u64 (IntKind.u64.wrap (1 * 2 ^ (min (a0.length : Int).toNat 64)))), (128, vk .u64 v46), (26, vk .u64 v46), (27, vi 0), (144, .own 1 0 v8.length), (145, vi (v8.length : Int)), (146, vi 0)], [some (.row 3 [.agg [.own 2 0 v25.length, .own 3 0 v24.length, .own 1 0 v8.length]]), some (.row 1 (List.map vi v8)), some (.row 1 (List.map (vk .u64) v25)), some (.row 1 (List.map (eS 1 (vk .u64)) v24))]⟩) sy ?_
        refine TriE.loopN h (fun (t : Int × Nat) => match t with | (v49, v50) => St.mk [(11, eS 6 eTask a0), (13, .ptr 0 0 0), (23, eS 1 vt v44), (24, vi v45), (25, vk .u64 y26), (127, vk .u64 (IntKind.u64.wrap (1 * 2 ^ (min (a0.length : Int).toNat 64)))), (128, vk .u64 v46), (26, vk .u64 v46), (27, vi v49), (144, .own 1 0 v8.length), (145, vi (v8.length : Int)), (146, vi v50)] [some (.row 3 [.agg [.own 2 0 v25.length, .own 3 0 v24.length, .own 1 0 v8.length]]), some (.row 1 (List.map vi v8)), some (.row 1 (List.map (vk .u64) v25)), some (.row 1 (List.map (eS 1 (vk .u64)) v24))]) rfl ?_
        clear h
        rintro back ⟨v49, v50⟩ h
        dsimp only [restore_Cheapest_L4] at h
        refine sj ?_
        refine jv (vb (decide (v50 < v8.length))) (cy (I0 147 (.bin .lss false (.t 146) (.t 145)))) (n_lss (i := v50) (j := v8.length) rfl rfl) rfl ?_
        refine jp [(11, eS 6 eTask a0), (13, .ptr 0 0 0), (23, eS 1 vt v44), (24, vi v45), (25, vk .u64 y26), (127, vk .u64 (IntKind.u64.wrap (1 * 2 ^ (min (a0.length : Int).toNat 64)))), (128, vk .u64 v46), (26, vk .u64 v46), (27, vi v49), (144, .own 1 0 v8.length), (145, vi (v8.length : Int)), (146, vi v50), (147, vb (decide (v50 < v8.length)))] ?_
        refine TriE.seq ?_
        refine TriE.cond (b := decide (v50 < v8.length)) rfl (fun c20 => ?_) (fun c20 => ?_)
        · have h := cond_t h c20
          refine TriE.skip ?_
          refine TriE.seqK h (fun (v51 : Int) => St.mk [(11, eS 6 eTask a0), (13, .ptr 0 0 0), (23, eS 1 vt v44), (24, vi v45), (25, vk .u64 y26), (127, vk .u64 (IntKind.u64.wrap (1 * 2 ^ (min (a0.length : Int).toNat 64)))), (128, vk .u64 v46), (26, vk .u64 v46), (144, .own 1 0 v8.length), (145, vi (v8.length : Int)), (146, vi v50), (27, vi v51)] [some (.row 3 [.agg [.own 2 0 v25.length, .own 3 0 v24.length, .own 1 0 v8.length]]), some (.row 1 (List.map vi v8)), some (.row 1 (List.map (vk .u64) v25)), some (.row 1 (List.map (eS 1 (vk .u64)) v24))]) ?_ ?_
          · rintro v51 h
            refine TriE.regJ ?_
            obtain ⟨c24, h⟩ := chk_some h
            refine jv (vi ((v50 + 1 : Nat) : Int)) (cy (I0 159 (.bin .add false (.t 146) (.c (.p (.int .i64 1)))))) (r_addn (i := v50) (j := 1) rfl rfl c24) rfl ?_
            refine jq 1 [(11, eS 6 eTask a0), (13, .ptr 0 0 0), (23, eS 1 vt v44), (24, vi v45), (25, vk .u64 y26), (127, vk .u64 (IntKind.u64.wrap (1 * 2 ^ (min (a0.length : Int).toNat 64)))), (128, vk .u64 v46), (26, vk .u64 v46), (144, .own 1 0 v8.length), (145, vi (v8.length : Int)), (27, vi v51), (146, vi ((v50 + 1 : Nat) : Int))] [some (.row 3 [.agg [.own 2 0 v25.length, .own 3 0 v24.length, .own 1 0 v8.length]]), some (.row 1 (List.map vi v8)), some (.row 1 (List.map (vk .u64) v25)), some (.row 1 (List.map (eS 1 (vk .u64)) v24))] ?_
            exact Vs.intro sy ⟨(v51, v50 + 1), rfl, h⟩
          intro k4 h
          refine TriE.block ?_
          refine sj ?_
          refine rn 1 [(11, eS 6 eTask a0), (13, .ptr 0 0 0), (23, eS 1 vt v44), (24, vi v45), (25, vk .u64 y26), (127, vk .u64 (IntKind.u64.wrap (1 * 2 ^ (min (a0.length : Int).toNat 64)))), (128, vk .u64 v46), (26, vk .u64 v46), (27, vi v49), (144, .own 1 0 v8.length), (145, vi (v8.length : Int)), (146, vi v50), (148, vi v50)] [some (.row 3 [.agg [.own 2 0 v25.length, .own 3 0 v24.length, .own 1 0 v8.length]]), some (.row 1 (List.map vi v8)), some (.row 1 (List.map (vk .u64) v25)), some (.row 1 (List.map (eS 1 (vk .u64)) v24))] ?_
          refine jv (.ptr 1 v50 0) (cy (I0 149 (.iaddr 1 (.t 144) (.t 146)))) (ok_iaddr_o0 (j := v50) rfl rfl rfl rfl c20) rfl ?_
          refine jv (vi (ix v8 v50)) (cy (I0 150 (.load false 1 (.t 149)))) (ok_load_pm (l := v8) (e := vi) (v := vi (ix v8 v50)) rfl rfl c20 rfl) rfl ?_
          refine jq 2 [(11, eS 6 eTask a0), (13, .ptr 0 0 0), (23, eS 1 vt v44), (24, vi v45), (25, vk .u64 y26), (127, vk .u64 (IntKind.u64.wrap (1 * 2 ^ (min (a0.length : Int).toNat 64)))), (128, vk .u64 v46), (26, vk .u64 v46), (27, vi v49), (144, .own 1 0 v8.length), (145, vi (v8.length : Int)), (146, vi v50), (28, vi v50), (29, vi (ix v8 v50))] [some (.row 3 [.agg [.own 2 0 v25.length, .own 3 0 v24.length, .own 1 0 v8.length]]), some (.row 1 (List.map vi v8)), some (.row 1 (List.map (vk .u64) v25)), some (.row 1 (List.map (eS 1 (vk .u64)) v24))] ?_
          refine sj ?_
          refine rn 2 [(11, eS 6 eTask a0), (13, .ptr 0 0 0), (23, eS 1 vt v44), (24, vi v45), (25, vk .u64 y26), (127, vk .u64 (IntKind.u64.wrap (1 * 2 ^ (min (a0.length : Int).toNat 64)))), (128, vk .u64 v46), (26, vk .u64 v46), (27, vi v49), (144, .own 1 0 v8.length), (145, vi (v8.length : Int)), (146, vi v50), (29, vi (ix v8 v50)), (151, vk .u64 v46), (152, vi v50)] [some (.row 3 [.agg [.own 2 0 v25.length, .own 3 0 v24.length, .own 1 0 v8.length]]), some (.row 1 (List.map vi v8)), some (.row 1 (List.map (vk .u64) v25)), some (.row 1 (List.map (eS 1 (vk .u64)) v24))] ?_
          obtain ⟨c21, h⟩ := chk_some h
          refine jv (vk .u64 (Int.fdiv v46 (2 ^ (min (v50 : Int).toNat 64)))) (cy (I0 153 (.bin .shr false (.t 151) (.t 152)))) (r_shr rfl rfl c21) rfl ?_
          refine jq 2 [(11, eS 6 eTask a0), (13, .ptr 0 0 0), (23, eS 1 vt v44), (24, vi v45), (25, vk .u64 y26), (127, vk .u64 (IntKind.u64.wrap (1 * 2 ^ (min (a0.length : Int).toNat 64)))), (128, vk .u64 v46), (26, vk .u64 v46), (27, vi v49), (144, .own 1 0 v8.length), (145, vi (v8.length : Int)), (146, vi v50), (29, vi (ix v8 v50)), (155, vb ((iAnd .u64 (Int.fdiv v46 (2 ^ (min (v50 : Int).toNat 64))) 1) != (0 : Int)))] [some (.row 3 [.agg [.own 2 0 v25.length, .own 3 0 v24.length, .own 1 0 v8.length]]), some (.row 1 (List.map vi v8)), some (.row 1 (List.map (vk .u64) v25)), some (.row 1 (List.map (eS 1 (vk .u64)) v24))] ?_
          refine TriE.cond (b := ((iAnd .u64 (Int.fdiv v46 (2 ^ (min (v50 : Int).toNat 64))) 1) != (0 : Int))) rfl (fun c22 => ?_) (fun c22 => ?_)
          · have h := cond_t h c22
            refine TriE.regJ ?_
            refine rn 2 [(11, eS 6 eTask a0), (13, .ptr 0 0 0), (23, eS 1 vt v44), (24, vi v45), (25, vk .u64 y26), (127, vk .u64 (IntKind.u64.wrap (1 * 2 ^ (min (a0.length : Int).toNat 64)))), (128, vk .u64 v46), (26, vk .u64 v46), (144, .own 1 0 v8.length), (145, vi (v8.length : Int)), (146, vi v50), (156, vi v49), (157, vi (ix v8 v50))] [some (.row 3 [.agg [.own 2 0 v25.length, .own 3 0 v24.length, .own 1 0 v8.length]]), some (.row 1 (List.map vi v8)), some (.row 1 (List.map (vk .u64) v25)), some (.row 1 (List.map (eS 1 (vk .u64)) v24))] ?_
            obtain ⟨c23, h⟩ := chk_some h
            refine jv (vi (v49 + (ix v8 v50))) (cy (I0 158 (.bin .add false (.t 156) (.t 157)))) (r_add rfl rfl c23) rfl ?_
            refine jq 1 [(11, eS 6 eTask a0), (13, .ptr 0 0 0), (23, eS 1 vt v44), (24, vi v45), (25, vk .u64 y26), (127, vk .u64 (IntKind.u64.wrap (1 * 2 ^ (min (a0.length : Int).toNat 64)))), (128, vk .u64 v46), (26, vk .u64 v46), (144, .own 1 0 v8.length), (145, vi (v8.length : Int)), (146, vi v50), (27, vi (v49 + (ix v8 v50)))] [some (.row 3 [.agg [.own 2 0 v25.length, .own 3 0 v24.length, .own 1 0 v8.length]]), some (.row 1 (List.map vi v8)), some (.row 1 (List.map (vk .u64) v25)), some (.row 1 (List.map (eS 1 (vk .u64)) v24))] ?_
            exact Vs.intro Sees.refl ⟨(v49 + (ix v8 v50)), rfl, h⟩
          have h := cond_f h c22
          refine TriE.skip ?_
          exact Vs.intro sy ⟨v49, rfl, h⟩
        have h := cond_f h c20
        refine TriE.exit ?_
        exact Vs.intro sy ⟨v49, rfl, h⟩
      have h := cond_f h c18
      refine TriE.exit ?_
      exact Vs.intro (sc [] (by decide) (by kernel_rfl) ObRen.nil rfl rfl) ⟨(v44, v45), rfl, h⟩
    intro k3 h
    refine sj ?_
    refine rn 1 [(0, eS 6 eTask a0), (2, eS 1 vt a2), (11, eS 6 eTask a0), (13, .ptr 0 0 0), (78, eS 6 eTask a0)] [some (.row 3 [.agg [.emp, .emp, .own 1 0 v8.length]]), some (.row 1 (List.map vi v8))] ?_
    refine jv (vi (a0.length : Int)) (cy (I0 79 (.len 0 (.t 78)))) (ok_len_m rfl) rfl ?_
    refine jq 1 [(0, eS 6 eTask a0), (2, eS 1 vt a2), (11, eS 6 eTask a0), (13, .ptr 0 0 0), (78, eS 6 eTask a0), (79, vi (a0.length : Int)), (80, vi 0)] [some (.row 3 [.agg [.emp, .emp, .own 1 0 v8.length]]), some (.row 1 (List.map vi v8))] ?_
    refine TriE.block ?_
    refine TriE.sees (S' := ⟨[(0, eS 6 eTask a0), (2, eS 1 vt a2), (11, eS 6 eTask a0), (13, .ptr 0 0 0), (78, eS 6 eTask a0), (79, vi (a0.length : Int)), (80, vi 0)], [some (.row 3 [.agg [.own 2 0 ([] : List Int).length, .own 3 0 ([] : List (List Int)).length, .own 1 0 v8.length]]), some (.row 1 (List.map vi v8)), some (.row 1 (List.map (vk .u64) ([] : List Int))), some (.row 1 (List.map (eS 1 (vk .u64)) ([] : List (List Int))))]⟩) (Sees.trans (Sees.co (fr' := [(0, eS 6 eTask a0), (2, eS 1 vt a2), (11, eS 6 eTask a0), (13, .ptr 0 0 0), (78, eS 6 eTask a0), (79, vi (a0.length : Int)), (80, vi 0)]) (ob' := [some (.row 3 [.agg [.own 2 0 0, .emp, .own 1 0 v8.length]]), some (.row 1 (List.map vi v8))]) (.cons .same (.cons .same (.cons .same (.cons .same (.cons .same (.cons .same (.cons .same .nil))))))) (.cell (.cons .own (.cons .same (.cons .same .nil))) rfl (.same .nil)) 1) (Sees.trans (Sees.co (fr' := [(0, eS 6 eTask a0), (2, eS 1 vt a2), (11, eS 6 eTask a0), (13, .ptr 0 0 0), (78, eS 6 eTask a0), (79, vi (a0.length : Int)), (80, vi 0)]) (ob' := [some (.row 3 [.agg [.own 2 0 0, .own 3 0 0, .own 1 0 v8.length]]), some (.row 1 (List.map vi v8)), some (.row 1 (List.map (vk .u64) ([] : List Int)))]) (.cons .same (.cons .same (.cons .same (.cons .same (.cons .same (.cons .same (.cons .same .nil))))))) (.cell (.cons .same (.cons .own (.cons .same .nil))) rfl (.same (.same .nil))) 1) sy)) ?_
    refine TriE.loopN h (fun (t : Nat × (List Int) × (List (List Int))) => match t with | (v15, v16, v17) => St.mk [(0, eS 6 eTask a0), (2, eS 1 vt a2), (11, eS 6 eTask a0), (13, .ptr 0 0 0), (78, eS 6 eTask a0), (79, vi (a0.length : Int)), (80, vi v15)] [some (.row 3 [.agg [.own 2 0 v16.length, .own 3 0 v17.length, .own 1 0 v8.length]]), some (.row 1 (List.map vi v8)), some (.row 1 (List.map (vk .u64) v16)), some (.row 1 (List.map (eS 1 (vk .u64)) v17))]) rfl ?_
    clear h
    rintro back ⟨v15, v16, v17⟩ h
    dsimp only [restore_Cheapest_L3] at h
    refine sj ?_
    refine jv (vb (decide (v15 < a0.length))) (cy (I0 81 (.bin .lss false (.t 80) (.t 79)))) (n_lss (i := v15) (j := a0.length) rfl rfl) rfl ?_
    refine jp [(0, eS 6 eTask a0), (2, eS 1 vt a2), (11, eS 6 eTask a0), (13, .ptr 0 0 0), (78, eS 6 eTask a0), (79, vi (a0.length : Int)), (80, vi v15), (81, vb (decide (v15 < a0.length)))] ?_
    refine TriE.seq ?_
    refine TriE.cond (b := decide (v15 < a0.length)) rfl (fun c9 => ?_) (fun c9 => ?_)
    · have h := cond_t h c9
      refine TriE.skip ?_
      refine TriE.seq ?_
      refine TriE.block ?_
      refine sj ?_
      refine jv (.fptr 6 (List.map eTask a0) v15 0) (cy (I0 82 (.iaddr 6 (.t 78) (.t 80)))) (ok_iaddr_m (j := v15) rfl rfl rfl c9) rfl ?_
      refine jv (.agg [vt ((ix a0 v15).Name), vi ((ix a0 v15).Cents), vi ((ix a0 v15).Hours), eS 1 vt ((ix a0 v15).Needs), eS 1 (eS 1 vt) ((ix a0 v15).OneOf), eS 2 ePartCount ((ix a0 v15).Parts)]) (cy (I0 83 (.load true 6 (.t 82)))) (ok_load_fm (v := .agg [vt ((ix a0 v15).Name), vi ((ix a0 v15).Cents), vi ((ix a0 v15).Hours), eS 1 vt ((ix a0 v15).Needs), eS 1 (eS 1 vt) ((ix a0 v15).OneOf), eS 2 ePartCount ((ix a0 v15).Parts)]) rfl c9 rfl) rfl ?_
      refine jq 2 [(0, eS 6 eTask a0), (2, eS 1 vt a2), (11, eS 6 eTask a0), (13, .ptr 0 0 0), (78, eS 6 eTask a0), (79, vi (a0.length : Int)), (80, vi v15), (19, .ptr 4 0 0)] [some (.row 3 [.agg [.own 2 0 v16.length, .own 3 0 v17.length, .own 1 0 v8.length]]), some (.row 1 (List.map vi v8)), some (.row 1 (List.map (vk .u64) v16)), some (.row 1 (List.map (eS 1 (vk .u64)) v17)), some (.row 6 [.agg [vt ((ix a0 v15).Name), vi ((ix a0 v15).Cents), vi ((ix a0 v15).Hours), eS 1 vt ((ix a0 v15).Needs), eS 1 (eS 1 vt) ((ix a0 v15).OneOf), eS 2 ePartCount ((ix a0 v15).Parts)]])] ?_
      refine sr [(0, eS 6 eTask a0), (2, eS 1 vt a2), (11, eS 6 eTask a0), (13, .ptr 0 0 0), (78, eS 6 eTask a0), (79, vi (a0.length : Int)), (80, vi v15), (19, .ptr 4 0 0), (20, .emp)] [some (.row 3 [.agg [.own 2 0 v16.length, .own 3 0 v17.length, .own 1 0 v8.length]]), some (.row 1 (List.map vi v8)), some (.row 1 (List.map (vk .u64) v16)), some (.row 1 (List.map (eS 1 (vk .u64)) v17)), some (.row 6 [.agg [vt ((ix a0 v15).Name), vi ((ix a0 v15).Cents), vi ((ix a0 v15).Hours), eS 1 vt ((ix a0 v15).Needs), eS 1 (eS 1 vt) ((ix a0 v15).OneOf), eS 2 ePartCount ((ix a0 v15).Parts)]])] ?_
      refine TriE.seqK h (fun (v22 : (List Int)) => St.mk [(0, eS 6 eTask a0), (2, eS 1 vt a2), (11, eS 6 eTask a0), (13, .ptr 0 0 0), (78, eS 6 eTask a0), (79, vi (a0.length : Int)), (80, vi v15), (19, .ptr 4 0 0), (20, .own 5 0 v22.length)] [some (.row 3 [.agg [.own 2 0 v16.length, .own 3 0 v17.length, .own 1 0 v8.length]]), some (.row 1 (List.map vi v8)), some (.row 1 (List.map (vk .u64) v16)), some (.row 1 (List.map (eS 1 (vk .u64)) v17)), some (.row 6 [.agg [vt ((ix a0 v15).Name), vi ((ix a0 v15).Cents), vi ((ix a0 v15).Hours), eS 1 vt ((ix a0 v15).Needs), eS 1 (eS 1 vt) ((ix a0 v15).OneOf), eS 2 ePartCount ((ix a0 v15).Parts)]]), some (.row 1 (List.map (vk .u64) v22))]) ?_ ?_
      · rintro v22 h
        refine TriE.sees (Sees.freeze 5 (fr' := [(0, eS 6 eTask a0), (2, eS 1 vt a2), (11, eS 6 eTask a0), (13, .ptr 0 0 0), (78, eS 6 eTask a0), (79, vi (a0.length : Int)), (80, vi v15), (19, .ptr 4 0 0), (20, eS 1 (vk .u64) v22)]) (ob' := [some (.row 3 [.agg [.own 2 0 v16.length, .own 3 0 v17.length, .own 1 0 v8.length]]), some (.row 1 (List.map vi v8)), some (.row 1 (List.map (vk .u64) v16)), some (.row 1 (List.map (eS 1 (vk .u64)) v17)), some (.row 6 [.agg [vt ((ix a0 v15).Name), vi ((ix a0 v15).Cents), vi ((ix a0 v15).Hours), eS 1 vt ((ix a0 v15).Needs), eS 1 (eS 1 vt) ((ix a0 v15).OneOf), eS 2 ePartCount ((ix a0 v15).Parts)]]), none]) rfl (frz_row (vk_frzE .u64) _) (.cons (.refl _) (.cons (.refl _) (.cons (.refl _) (.cons (.refl _) (.cons (.refl _) (.cons (.refl _) (.cons (.refl _) (.cons (.refl _) (.cons (frz_full rfl) .nil))))))))) rfl) ?_
        refine TriE.sees (Sees.less (fr' := [(0, eS 6 eTask a0), (2, eS 1 vt a2), (11, eS 6 eTask a0), (13, .ptr 0 0 0), (78, eS 6 eTask a0), (79, vi (a0.length : Int)), (80, vi v15), (19, .ptr 4 0 0), (20, eS 1 (vk .u64) v22)]) (.cons rfl (.cons rfl (.cons rfl (.cons rfl (.cons rfl (.cons rfl (.cons rfl (.cons rfl (.cons rfl .nil)))))))))) ?_
        refine TriE.draw (by kernel_rfl) ?_
        refine RegD.run 9 [(106, eS 1 vt ((ix a0 v15).Needs)), (105, .ptr 4 0 3), (104, eS 6 eTask a0), (103, .own 2 0 v16.length), (102, .ptr 0 0 0), (101, .ptr 0 0 0), (100, .ptr 0 0 0), (99, .ptr 0 0 0), (98, .ptr 0 0 0), (0, eS 6 eTask a0), (2, eS 1 vt a2), (11, eS 6 eTask a0), (13, .ptr 0 0 0), (78, eS 6 eTask a0), (79, vi (a0.length : Int)), (80, vi v15), (19, .ptr 4 0 0), (20, eS 1 (vk .u64) v22)] [some (.row 3 [.agg [.own 2 0 v16.length, .own 3 0 v17.length, .own 1 0 v8.length]]), some (.row 1 (List.map vi v8)), some (.row 1 (List.map (vk .u64) v16)), some (.row 1 (List.map (eS 1 (vk .u64)) v17)), some (.row 6 [.agg [vt ((ix a0 v15).Name), vi ((ix a0 v15).Cents), vi ((ix a0 v15).Hours), eS 1 vt ((ix a0 v15).Needs), eS 1 (eS 1 vt) ((ix a0 v15).OneOf), eS 2 ePartCount ((ix a0 v15).Parts)]]), none, none, none, none, none, none, none, none, none, none] (by kernel_rfl) ?_
        obtain ⟨y23, hy23, h⟩ := bind_some h
        refine RegD.op (OpD.call (y' := vk .u64 y23) (obx := []) (oby := []) (ob2 := [some (.row 3 [.agg [.own 2 0 v16.length, .own 3 0 v17.length, .own 1 0 v8.length]]), some (.row 1 (List.map vi v8)), some (.row 1 (List.map (vk .u64) v16)), some (.row 1 (List.map (eS 1 (vk .u64)) v17)), some (.row 6 [.agg [vt ((ix a0 v15).Name), vi ((ix a0 v15).Cents), vi ((ix a0 v15).Hours), eS 1 vt ((ix a0 v15).Needs), eS 1 (eS 1 vt) ((ix a0 v15).OneOf), eS 2 ePartCount ((ix a0 v15).Parts)]]), none, none, none, none, none, none, none, none, none, none, none]) (tch := []) 0 _ _ (cy (I0 107 (.call 133 [(.t 104), (.t 106)]))) (restore_list_bits_ok n a0 ((ix a0 v15).Needs) y23 hy23) [] (by kernel_rfl) (.cons rfl (.cons rfl (.cons rfl .nil))) (by kernel_rfl) (by kernel_rfl) ObsRen.nil (by kernel_rfl) ObsRen.nil (by kernel_rfl) rfl (.inr ⟨rfl, rfl⟩)) ?_
        refine RegD.run 1 [(108, .own 16 0 1), (107, vk .u64 y23), (106, eS 1 vt ((ix a0 v15).Needs)), (105, .ptr 4 0 3), (104, eS 6 eTask a0), (103, .own 2 0 v16.length), (102, .ptr 0 0 0), (101, .ptr 0 0 0), (100, .ptr 0 0 0), (99, .ptr 0 0 0), (98, .ptr 0 0 0), (0, eS 6 eTask a0), (2, eS 1 vt a2), (11, eS 6 eTask a0), (13, .ptr 0 0 0), (78, eS 6 eTask a0), (79, vi (a0.length : Int)), (80, vi v15), (19, .ptr 4 0 0), (20, eS 1 (vk .u64) v22)] [some (.row 3 [.agg [.own 2 0 v16.length, .own 3 0 v17.length, .own 1 0 v8.length]]), some (.row 1 (List.map vi v8)), some (.row 1 (List.map (vk .u64) v16)), some (.row 1 (List.map (eS 1 (vk .u64)) v17)), some (.row 6 [.agg [vt ((ix a0 v15).Name), vi ((ix a0 v15).Cents), vi ((ix a0 v15).Hours), eS 1 vt ((ix a0 v15).Needs), eS 1 (eS 1 vt) ((ix a0 v15).OneOf), eS 2 ePartCount ((ix a0 v15).Parts)]]), none, none, none, none, none, none, none, none, none, none, none, some (.row 1 [vk .u64 y23])] (by kernel_rfl) ?_
        obtain ⟨c14, h⟩ := chk_some h
        refine de (.own 17 0 ((v16 ++ ([y23] : List Int)).length)) [some (.row 3 [.agg [.own 2 0 v16.length, .own 3 0 v17.length, .own 1 0 v8.length]]), some (.row 1 (List.map vi v8)), none, some (.row 1 (List.map (eS 1 (vk .u64)) v17)), some (.row 6 [.agg [vt ((ix a0 v15).Name), vi ((ix a0 v15).Cents), vi ((ix a0 v15).Hours), eS 1 vt ((ix a0 v15).Needs), eS 1 (eS 1 vt) ((ix a0 v15).OneOf), eS 2 ePartCount ((ix a0 v15).Parts)]]), none, none, none, none, none, none, none, none, none, none, none, some (.row 1 [vk .u64 y23]), some (.row 1 (List.map (vk .u64) (v16 ++ ([y23] : List Int))))] (cy (I0 109 (.app 1 8 (.t 103) (.t 108)))) (ok_app_own (l := v16) (l2 := ([y23] : List Int)) (e := (vk .u64)) (u := .own 16 0 1) rfl rfl rfl rfl rfl c14) rfl rfl rfl ?_
        refine RegD.run 6 [(115, .own 23 0 1), (114, eS 1 (vk .u64) v22), (113, .own 3 0 v17.length), (112, .ptr 0 0 1), (111, .ptr 0 0 0), (110, .ptr 0 0 0), (109, .own 17 0 ((v16 ++ ([y23] : List Int)).length)), (108, .own 16 0 1), (107, vk .u64 y23), (106, eS 1 vt ((ix a0 v15).Needs)), (105, .ptr 4 0 3), (104, eS 6 eTask a0), (103, .own 2 0 v16.length), (102, .ptr 0 0 0), (101, .ptr 0 0 0), (100, .ptr 0 0 0), (99, .ptr 0 0 0), (98, .ptr 0 0 0), (0, eS 6 eTask a0), (2, eS 1 vt a2), (11, eS 6 eTask a0), (13, .ptr 0 0 0), (78, eS 6 eTask a0), (79, vi (a0.length : Int)), (80, vi v15), (19, .ptr 4 0 0), (20, eS 1 (vk .u64) v22)] [some (.row 3 [.agg [.own 2 0 v16.length, .own 3 0 v17.length, .own 1 0 v8.length]]), some (.row 1 (List.map vi v8)), none, some (.row 1 (List.map (eS 1 (vk .u64)) v17)), some (.row 6 [.agg [vt ((ix a0 v15).Name), vi ((ix a0 v15).Cents), vi ((ix a0 v15).Hours), eS 1 vt ((ix a0 v15).Needs), eS 1 (eS 1 vt) ((ix a0 v15).OneOf), eS 2 ePartCount ((ix a0 v15).Parts)]]), none, none, none, none, none, none, none, none, none, none, none, some (.row 1 [vk .u64 y23]), some (.row 1 (List.map (vk .u64) (v16 ++ ([y23] : List Int)))), none, none, none, none, none, some (.row 1 [eS 1 (vk .u64) v22])] (by kernel_rfl) ?_
        obtain ⟨c15, h⟩ := chk_some h
        refine de (.own 24 0 ((v17 ++ ([v22] : List (List Int))).length)) [some (.row 3 [.agg [.own 2 0 v16.length, .own 3 0 v17.length, .own 1 0 v8.length]]), some (.row 1 (List.map vi v8)), none, none, some (.row 6 [.agg [vt ((ix a0 v15).Name), vi ((ix a0 v15).Cents), vi ((ix a0 v15).Hours), eS 1 vt ((ix a0 v15).Needs), eS 1 (eS 1 vt) ((ix a0 v15).OneOf), eS 2 ePartCount ((ix a0 v15).Parts)]]), none, none, none, none, none, none, none, none, none, none, none, some (.row 1 [vk .u64 y23]), some (.row 1 (List.map (vk .u64) (v16 ++ ([y23] : List Int)))), none, none, none, none, none, some (.row 1 [eS 1 (vk .u64) v22]), some (.row 1 (List.map (eS 1 (vk .u64)) (v17 ++ ([v22] : List (List Int)))))] (cy (I0 116 (.app 1 24 (.t 113) (.t 115)))) (ok_app_own (l := v17) (l2 := ([v22] : List (List Int))) (e := (eS 1 (vk .u64))) (u := .own 23 0 1) rfl rfl rfl rfl rfl c15) rfl rfl rfl ?_
        refine RegD.run 6 [(120, .ptr 0 0 1), (119, .ptr 0 0 0), (118, .ptr 0 0 0), (117, .ptr 0 0 0), (116, .own 24 0 ((v17 ++ ([v22] : List (List Int))).length)), (115, .own 23 0 1), (114, eS 1 (vk .u64) v22), (113, .own 3 0 v17.length), (112, .ptr 0 0 1), (111, .ptr 0 0 0), (110, .ptr 0 0 0), (109, .own 17 0 ((v16 ++ ([y23] : List Int)).length)), (108, .own 16 0 1), (107, vk .u64 y23), (106, eS 1 vt ((ix a0 v15).Needs)), (105, .ptr 4 0 3), (104, eS 6 eTask a0), (103, .own 2 0 v16.length), (102, .ptr 0 0 0), (101, .ptr 0 0 0), (100, .ptr 0 0 0), (99, .ptr 0 0 0), (98, .ptr 0 0 0), (0, eS 6 eTask a0), (2, eS 1 vt a2), (11, eS 6 eTask a0), (13, .ptr 0 0 0), (78, eS 6 eTask a0), (79, vi (a0.length : Int)), (80, vi v15), (19, .ptr 4 0 0), (20, eS 1 (vk .u64) v22)] [some (.row 3 [.agg [.own 17 0 ((v16 ++ ([y23] : List Int)).length), .own 24 0 ((v17 ++ ([v22] : List (List Int))).length), .own 1 0 v8.length]]), some (.row 1 (List.map vi v8)), none, none, some (.row 6 [.agg [vt ((ix a0 v15).Name), vi ((ix a0 v15).Cents), vi ((ix a0 v15).Hours), eS 1 vt ((ix a0 v15).Needs), eS 1 (eS 1 vt) ((ix a0 v15).OneOf), eS 2 ePartCount ((ix a0 v15).Parts)]]), none, none, none, none, none, none, none, none, none, none, none, some (.row 1 [vk .u64 y23]), some (.row 1 (List.map (vk .u64) (v16 ++ ([y23] : List Int)))), none, none, none, none, none, some (.row 1 [eS 1 (vk .u64) v22]), some (.row 1 (List.map (eS 1 (vk .u64)) (v17 ++ ([v22] : List (List Int))))), none, none, none, none, none, none] (by kernel_rfl) ?_
        refine RegD.done rfl (by kernel_rfl) (S' := ⟨[(0, eS 6 eTask a0), (2, eS 1 vt a2), (11, eS 6 eTask a0), (13, .ptr 0 0 0), (78, eS 6 eTask a0), (79, vi (a0.length : Int)), (80, vi v15)], [some (.row 3 [.agg [.own 2 0 ((v16 ++ ([y23] : List Int)).length), .own 3 0 ((v17 ++ ([v22] : List (List Int))).length), .own 1 0 v8.length]]), some (.row 1 (List.map vi v8)), some (.row 1 (List.map (vk .u64) (v16 ++ ([y23] : List Int)))), some (.row 1 (List.map (eS 1 (vk .u64)) (v17 ++ ([v22] : List (List Int)))))]⟩) (sc [0, 1, 17, 24] (by decide) (by kernel_rfl) (.cons rfl (obRen_row vi_frz rfl (obRen_row (vk_frz .u64) rfl (obRen_row (eS_frz 1 (vk .u64)) rfl .nil)))) rfl rfl) ?_
        refine TriE.regJ ?_
        obtain ⟨c16, h⟩ := chk_some h
        refine jv (vi ((v15 + 1 : Nat) : Int)) (cy (I0 121 (.bin .add false (.t 80) (.c (.p (.int .i64 1)))))) (r_addn (i := v15) (j := 1) rfl rfl c16) rfl ?_
        refine jq 1 [(0, eS 6 eTask a0), (2, eS 1 vt a2), (11, eS 6 eTask a0), (13, .ptr 0 0 0), (78, eS 6 eTask a0), (79, vi (a0.length : Int)), (80, vi ((v15 + 1 : Nat) : Int))] [some (.row 3 [.agg [.own 2 0 ((v16 ++ ([y23] : List Int)).length), .own 3 0 ((v17 ++ ([v22] : List (List Int))).length), .own 1 0 v8.length]]), some (.row 1 (List.map vi v8)), some (.row 1 (List.map (vk .u64) (v16 ++ ([y23] : List Int)))), some (.row 1 (List.map (eS 1 (vk .u64)) (v17 ++ ([v22] : List (List Int)))))] ?_
        exact Vs.intro sy ⟨(v15 + 1, (v16 ++ ([y23] : List Int)), (v17 ++ ([v22] : List (List Int)))), rfl, h⟩
      intro k2 h
      refine sj ?_
      refine rn 2 [(0, eS 6 eTask a0), (2, eS 1 vt a2), (11, eS 6 eTask a0), (13, .ptr 0 0 0), (78, eS 6 eTask a0), (79, vi (a0.length : Int)), (80, vi v15), (19, .ptr 4 0 0), (20, .emp), (85, eS 1 (eS 1 vt) ((ix a0 v15).OneOf))] [some (.row 3 [.agg [.own 2 0 v16.length, .own 3 0 v17.length, .own 1 0 v8.length]]), some (.row 1 (List.map vi v8)), some (.row 1 (List.map (vk .u64) v16)), some (.row 1 (List.map (eS 1 (vk .u64)) v17)), some (.row 6 [.agg [vt ((ix a0 v15).Name), vi ((ix a0 v15).Cents), vi ((ix a0 v15).Hours), eS 1 vt ((ix a0 v15).Needs), eS 1 (eS 1 vt) ((ix a0 v15).OneOf), eS 2 ePartCount ((ix a0 v15).Parts)]])] ?_
      refine jv (vi ((((ix a0 v15).OneOf).length : Nat) : Int)) (cy (I0 86 (.len 0 (.t 85)))) (ok_len_m rfl) rfl ?_
      refine jq 1 [(0, eS 6 eTask a0), (2, eS 1 vt a2), (11, eS 6 eTask a0), (13, .ptr 0 0 0), (78, eS 6 eTask a0), (79, vi (a0.length : Int)), (80, vi v15), (19, .ptr 4 0 0), (20, .emp), (85, eS 1 (eS 1 vt) ((ix a0 v15).OneOf)), (86, vi ((((ix a0 v15).OneOf).length : Nat) : Int)), (87, vi 0)] [some (.row 3 [.agg [.own 2 0 v16.length, .own 3 0 v17.length, .own 1 0 v8.length]]), some (.row 1 (List.map vi v8)), some (.row 1 (List.map (vk .u64) v16)), some (.row 1 (List.map (eS 1 (vk .u64)) v17)), some (.row 6 [.agg [vt ((ix a0 v15).Name), vi ((ix a0 v15).Cents), vi ((ix a0 v15).Hours), eS 1 vt ((ix a0 v15).Needs), eS 1 (eS 1 vt) ((ix a0 v15).OneOf), eS 2 ePartCount ((ix a0 v15).Parts)]])] ?_
      refine TriE.block ?_
      refine TriE.sees (S' := ⟨[(0, eS 6 eTask a0), (2, eS 1 vt a2), (11, eS 6 eTask a0), (13, .ptr 0 0 0), (78, eS 6 eTask a0), (79, vi (a0.length : Int)), (80, vi v15), (19, .ptr 4 0 0), (20, .own 5 0 ([] : List Int).length), (85, eS 1 (eS 1 vt) ((ix a0 v15).OneOf)), (86, vi ((((ix a0 v15).OneOf).length : Nat) : Int)), (87, vi 0)], [some (.row 3 [.agg [.own 2 0 v16.length, .own 3 0 v17.length, .own 1 0 v8.length]]), some (.row 1 (List.map vi v8)), some (.row 1 (List.map (vk .u64) v16)), some (.row 1 (List.map (eS 1 (vk .u64)) v17)), some (.row 6 [.agg [vt ((ix a0 v15).Name), vi ((ix a0 v15).Cents), vi ((ix a0 v15).Hours), eS 1 vt ((ix a0 v15).Needs), eS 1 (eS 1 vt) ((ix a0 v15).OneOf), eS 2 ePartCount ((ix a0 v15).Parts)]]), some (.row 1 (List.map (vk .u64) ([] : List Int)))]⟩) (Sees.trans (Sees.co (fr' := [(0, eS 6 eTask a0), (2, eS 1 vt a2), (11, eS 6 eTask a0), (13, .ptr 0 0 0), (78, eS 6 eTask a0), (79, vi (a0.length : Int)), (80, vi v15), (19, .ptr 4 0 0), (20, .own 5 0 0), (85, eS 1 (eS 1 vt) ((ix a0 v15).OneOf)), (86, vi ((((ix a0 v15).OneOf).length : Nat) : Int)), (87, vi 0)]) (ob' := [some (.row 3 [.agg [.own 2 0 v16.length, .own 3 0 v17.length, .own 1 0 v8.length]]), some (.row 1 (List.map vi v8)), some (.row 1 (List.map (vk .u64) v16)), some (.row 1 (List.map (eS 1 (vk .u64)) v17)), some (.row 6 [.agg [vt ((ix a0 v15).Name), vi ((ix a0 v15).Cents), vi ((ix a0 v15).Hours), eS 1 vt ((ix a0 v15).Needs), eS 1 (eS 1 vt) ((ix a0 v15).OneOf), eS 2 ePartCount ((ix a0 v15).Parts)]])]) (.cons .same (.cons .same (.cons .same (.cons .same (.cons .same (.cons .same (.cons .same (.cons .same (.cons .own (.cons .same (.cons .same (.cons .same .nil)))))))))))) (.same (.same (.same (.same (.same .nil))))) 1) sy) ?_
      refine TriE.loopN h (fun (t : (List Int) × Nat) => match t with | (v19, v20) => St.mk [(0, eS 6 eTask a0), (2, eS 1 vt a2), (11, eS 6 eTask a0), (13, .ptr 0 0 0), (78, eS 6 eTask a0), (79, vi (a0.length : Int)), (80, vi v15), (19, .ptr 4 0 0), (20, .own 5 0 v19.length), (85, eS 1 (eS 1 vt) ((ix a0 v15).OneOf)), (86, vi ((((ix a0 v15).OneOf).length : Nat) : Int)), (87, vi v20)] [some (.row 3 [.agg [.own 2 0 v16.length, .own 3 0 v17.length, .own 1 0 v8.length]]), some (.row 1 (List.map vi v8)), some (.row 1 (List.map (vk .u64) v16)), some (.row 1 (List.map (eS 1 (vk .u64)) v17)), some (.row 6 [.agg [vt ((ix a0 v15).Name), vi ((ix a0 v15).Cents), vi ((ix a0 v15).Hours), eS 1 vt ((ix a0 v15).Needs), eS 1 (eS 1 vt) ((ix a0 v15).OneOf), eS 2 ePartCount ((ix a0 v15).Parts)]]), some (.row 1 (List.map (vk .u64) v19))]) rfl ?_
      clear h
      rintro back ⟨v19, v20⟩ h
      dsimp only [restore_Cheapest_L2] at h
      refine sj ?_
      refine jv (vb (decide (v20 < (((ix a0 v15).OneOf).length)))) (cy (I0 88 (.bin .lss false (.t 87) (.t 86)))) (n_lss (i := v20) (j := ((ix a0 v15).OneOf).length) rfl rfl) rfl ?_
      refine jp [(0, eS 6 eTask a0), (2, eS 1 vt a2), (11, eS 6 eTask a0), (13, .ptr 0 0 0), (78, eS 6 eTask a0), (79, vi (a0.length : Int)), (80, vi v15), (19, .ptr 4 0 0), (20, .own 5 0 v19.length), (85, eS 1 (eS 1 vt) ((ix a0 v15).OneOf)), (86, vi ((((ix a0 v15).OneOf).length : Nat) : Int)), (87, vi v20), (88, vb (decide (v20 < (((ix a0 v15).OneOf).length))))] ?_
      refine TriE.seq ?_
      refine TriE.cond (b := decide (v20 < (((ix a0 v15).OneOf).length))) rfl (fun c10 => ?_) (fun c10 => ?_)
      · have h := cond_t h c10
        refine TriE.skip ?_
        refine TriE.seq ?_
        refine TriE.block ?_
        refine sj ?_
        obtain ⟨c11, h⟩ := chk_some h
        refine jv (.fptr 1 (List.map (eS 1 vt) ((ix a0 v15).OneOf)) v20 0) (cy (I0 89 (.iaddr 1 (.t 85) (.t 87)))) (ok_iaddr_m (j := v20) rfl rfl rfl c11) rfl ?_
        refine jv (eS 1 vt (ix ((ix a0 v15).OneOf) v20)) (cy (I0 90 (.load false 1 (.t 89)))) (ok_load_fm (v := eS 1 vt (ix ((ix a0 v15).OneOf) v20)) rfl c11 rfl) rfl ?_
        refine jq 1 [(0, eS 6 eTask a0), (2, eS 1 vt a2), (11, eS 6 eTask a0), (13, .ptr 0 0 0), (78, eS 6 eTask a0), (79, vi (a0.length : Int)), (80, vi v15), (19, .ptr 4 0 0), (20, .own 5 0 v19.length), (85, eS 1 (eS 1 vt) ((ix a0 v15).OneOf)), (86, vi ((((ix a0 v15).OneOf).length : Nat) : Int)), (87, vi v20), (22, eS 1 vt (ix ((ix a0 v15).OneOf) v20))] [some (.row 3 [.agg [.own 2 0 v16.length, .own 3 0 v17.length, .own 1 0 v8.length]]), some (.row 1 (List.map vi v8)), some (.row 1 (List.map (vk .u64) v16)), some (.row 1 (List.map (eS 1 (vk .u64)) v17)), some (.row 6 [.agg [vt ((ix a0 v15).Name), vi ((ix a0 v15).Cents), vi ((ix a0 v15).Hours), eS 1 vt ((ix a0 v15).Needs), eS 1 (eS 1 vt) ((ix a0 v15).OneOf), eS 2 ePartCount ((ix a0 v15).Parts)]]), some (.row 1 (List.map (vk .u64) v19))] ?_
        refine TriE.regJ ?_
        refine rn 3 [(0, eS 6 eTask a0), (2, eS 1 vt a2), (11, eS 6 eTask a0), (13, .ptr 0 0 0), (78, eS 6 eTask a0), (79, vi (a0.length : Int)), (80, vi v15), (19, .ptr 4 0 0), (85, eS 1 (eS 1 vt) ((ix a0 v15).OneOf)), (86, vi ((((ix a0 v15).OneOf).length : Nat) : Int)), (87, vi v20), (91, .own 5 0 v19.length), (92, eS 6 eTask a0), (93, eS 1 vt (ix ((ix a0 v15).OneOf) v20))] [some (.row 3 [.agg [.own 2 0 v16.length, .own 3 0 v17.length, .own 1 0 v8.length]]), some (.row 1 (List.map vi v8)), some (.row 1 (List.map (vk .u64) v16)), some (.row 1 (List.map (eS 1 (vk .u64)) v17)), some (.row 6 [.agg [vt ((ix a0 v15).Name), vi ((ix a0 v15).Cents), vi ((ix a0 v15).Hours), eS 1 vt ((ix a0 v15).Needs), eS 1 (eS 1 vt) ((ix a0 v15).OneOf), eS 2 ePartCount ((ix a0 v15).Parts)]]), some (.row 1 (List.map (vk .u64) v19))] ?_
        obtain ⟨y21, hy21, h⟩ := bind_some h
        refine RegJ.op (Op1.call (y' := vk .u64 y21) (obx := []) (oby := []) (ob2 := [some (.row 3 [.agg [.own 2 0 v16.length, .own 3 0 v17.length, .own 1 0 v8.length]]), some (.row 1 (List.map vi v8)), some (.row 1 (List.map (vk .u64) v16)), some (.row 1 (List.map (eS 1 (vk .u64)) v17)), some (.row 6 [.agg [vt ((ix a0 v15).Name), vi ((ix a0 v15).Cents), vi ((ix a0 v15).Hours), eS 1 vt ((ix a0 v15).Needs), eS 1 (eS 1 vt) ((ix a0 v15).OneOf), eS 2 ePartCount ((ix a0 v15).Parts)]]), some (.row 1 (List.map (vk .u64) v19))]) _ _ (cy (I0 94 (.call 133 [(.t 92), (.t 93)]))) rfl (restore_list_bits_ok n a0 (ix ((ix a0 v15).OneOf) v20) y21 hy21) [] (by kernel_rfl) (.cons rfl (.cons rfl (.cons rfl .nil))) (by kernel_rfl) (by kernel_rfl) ObsRen.nil (by kernel_rfl) ObsRen.nil (by kernel_rfl)) ?_
        refine rn 1 [(0, eS 6 eTask a0), (2, eS 1 vt a2), (11, eS 6 eTask a0), (13, .ptr 0 0 0), (78, eS 6 eTask a0), (79, vi (a0.length : Int)), (80, vi v15), (19, .ptr 4 0 0), (85, eS 1 (eS 1 vt) ((ix a0 v15).OneOf)), (86, vi ((((ix a0 v15).OneOf).length : Nat) : Int)), (87, vi v20), (91, .own 5 0 v19.length), (95, .own 6 0 1)] [some (.row 3 [.agg [.own 2 0 v16.length, .own 3 0 v17.length, .own 1 0 v8.length]]), some (.row 1 (List.map vi v8)), some (.row 1 (List.map (vk .u64) v16)), some (.row 1 (List.map (eS 1 (vk .u64)) v17)), some (.row 6 [.agg [vt ((ix a0 v15).Name), vi ((ix a0 v15).Cents), vi ((ix a0 v15).Hours), eS 1 vt ((ix a0 v15).Needs), eS 1 (eS 1 vt) ((ix a0 v15).OneOf), eS 2 ePartCount ((ix a0 v15).Parts)]]), some (.row 1 (List.map (vk .u64) v19)), some (.row 1 [vk .u64 y21])] ?_
        obtain ⟨c12, h⟩ := chk_some h
        refine je (.own 7 0 ((v19 ++ ([y21] : List Int)).length)) [some (.row 3 [.agg [.own 2 0 v16.length, .own 3 0 v17.length, .own 1 0 v8.length]]), some (.row 1 (List.map vi v8)), some (.row 1 (List.map (vk .u64) v16)), some (.row 1 (List.map (eS 1 (vk .u64)) v17)), some (.row 6 [.agg [vt ((ix a0 v15).Name), vi ((ix a0 v15).Cents), vi ((ix a0 v15).Hours), eS 1 vt ((ix a0 v15).Needs), eS 1 (eS 1 vt) ((ix a0 v15).OneOf), eS 2 ePartCount ((ix a0 v15).Parts)]]), none, some (.row 1 [vk .u64 y21]), some (.row 1 (List.map (vk .u64) (v19 ++ ([y21] : List Int))))] (cy (I0 96 (.app 1 8 (.t 91) (.t 95)))) (ok_app_own (l := v19) (l2 := ([y21] : List Int)) (e := (vk .u64)) (u := .own 6 0 1) rfl rfl rfl rfl rfl c12) rfl rfl rfl ?_
        refine jq 1 [(0, eS 6 eTask a0), (2, eS 1 vt a2), (11, eS 6 eTask a0), (13, .ptr 0 0 0), (78, eS 6 eTask a0), (79, vi (a0.length : Int)), (80, vi v15), (19, .ptr 4 0 0), (85, eS 1 (eS 1 vt) ((ix a0 v15).OneOf)), (86, vi ((((ix a0 v15).OneOf).length : Nat) : Int)), (87, vi v20), (20, .own 7 0 ((v19 ++ ([y21] : List Int)).length))] [some (.row 3 [.agg [.own 2 0 v16.length, .own 3 0 v17.length, .own 1 0 v8.length]]), some (.row 1 (List.map vi v8)), some (.row 1 (List.map (vk .u64) v16)), some (.row 1 (List.map (eS 1 (vk .u64)) v17)), some (.row 6 [.agg [vt ((ix a0 v15).Name), vi ((ix a0 v15).Cents), vi ((ix a0 v15).Hours), eS 1 vt ((ix a0 v15).Needs), eS 1 (eS 1 vt) ((ix a0 v15).OneOf), eS 2 ePartCount ((ix a0 v15).Parts)]]), none, some (.row 1 [vk .u64 y21]), some (.row 1 (List.map (vk .u64) (v19 ++ ([y21] : List Int))))] ?_
        refine TriE.regJ ?_
        obtain ⟨c13, h⟩ := chk_some h
        refine jv (vi ((v20 + 1 : Nat) : Int)) (cy (I0 97 (.bin .add false (.t 87) (.c (.p (.int .i64 1)))))) (r_addn (i := v20) (j := 1) rfl rfl c13) rfl ?_
        refine jq 1 [(0, eS 6 eTask a0), (2, eS 1 vt a2), (11, eS 6 eTask a0), (13, .ptr 0 0 0), (78, eS 6 eTask a0), (79, vi (a0.length : Int)), (80, vi v15), (19, .ptr 4 0 0), (85, eS 1 (eS 1 vt) ((ix a0 v15).OneOf)), (86, vi ((((ix a0 v15).OneOf).length : Nat) : Int)), (20, .own 7 0 ((v19 ++ ([y21] : List Int)).length)), (87, vi ((v20 + 1 : Nat) : Int))] [some (.row 3 [.agg [.own 2 0 v16.length, .own 3 0 v17.length, .own 1 0 v8.length]]), some (.row 1 (List.map vi v8)), some (.row 1 (List.map (vk .u64) v16)), some (.row 1 (List.map (eS 1 (vk .u64)) v17)), some (.row 6 [.agg [vt ((ix a0 v15).Name), vi ((ix a0 v15).Cents), vi ((ix a0 v15).Hours), eS 1 vt ((ix a0 v15).Needs), eS 1 (eS 1 vt) ((ix a0 v15).OneOf), eS 2 ePartCount ((ix a0 v15).Parts)]]), none, some (.row 1 [vk .u64 y21]), some (.row 1 (List.map (vk .u64) (v19 ++ ([y21] : List Int))))] ?_
        exact Vs.intro (sc [0, 1, 2, 3, 4, 7] (by decide) (by kernel_rfl) (.cons rfl (obRen_row vi_frz rfl (obRen_row (vk_frz .u64) rfl (obRen_row (eS_frz 1 (vk .u64)) rfl (.cons rfl (obRen_row (vk_frz .u64) rfl .nil)))))) rfl rfl) ⟨((v19 ++ ([y21] : List Int)), v20 + 1), rfl, h⟩
      have h := cond_f h c10
      refine TriE.exit ?_
      exact Vs.intro sy ⟨v19, rfl, h⟩
    have h := cond_f h c9
    refine TriE.exit ?_
    exact Vs.intro sy ⟨(v17, v16), rfl, h⟩
  intro k1 h
  refine sj ?_
  refine rn 1 [(0, eS 6 eTask a0), (1, eS 3 eStocked a1), (2, eS 1 vt a2), (11, eS 6 eTask a0), (13, .ptr 0 0 0), (50, eS 6 eTask a0)] [some (.row 3 [.agg [.emp, .emp, .emp]])] ?_
  refine jv (vi (a0.length : Int)) (cy (I0 51 (.len 0 (.t 50)))) (ok_len_m rfl) rfl ?_
  refine jq 1 [(0, eS 6 eTask a0), (1, eS 3 eStocked a1), (2, eS 1 vt a2), (11, eS 6 eTask a0), (13, .ptr 0 0 0), (50, eS 6 eTask a0), (51, vi (a0.length : Int)), (52, vi 0)] [some (.row 3 [.agg [.emp, .emp, .emp]])] ?_
  refine TriE.block ?_
  refine TriE.sees (S' := ⟨[(0, eS 6 eTask a0), (1, eS 3 eStocked a1), (2, eS 1 vt a2), (11, eS 6 eTask a0), (13, .ptr 0 0 0), (50, eS 6 eTask a0), (51, vi (a0.length : Int)), (52, vi 0)], [some (.row 3 [.agg [.emp, .emp, .own 1 0 ([] : List Int).length]]), some (.row 1 (List.map vi ([] : List Int)))]⟩) (Sees.trans (Sees.co (fr' := [(0, eS 6 eTask a0), (1, eS 3 eStocked a1), (2, eS 1 vt a2), (11, eS 6 eTask a0), (13, .ptr 0 0 0), (50, eS 6 eTask a0), (51, vi (a0.length : Int)), (52, vi 0)]) (ob' := [some (.row 3 [.agg [.emp, .emp, .own 1 0 0]])]) (.cons .same (.cons .same (.cons .same (.cons .same (.cons .same (.cons .same (.cons .same (.cons .same .nil)))))))) (.cell (.cons .same (.cons .same (.cons .own .nil))) rfl .nil) 1) sy) ?_
  refine TriE.loopN h (fun (t : Nat × (List Int)) => match t with | (v5, v6) => St.mk [(0, eS 6 eTask a0), (1, eS 3 eStocked a1), (2, eS 1 vt a2), (11, eS 6 eTask a0), (13, .ptr 0 0 0), (50, eS 6 eTask a0), (51, vi (a0.length : Int)), (52, vi v5)] [some (.row 3 [.agg [.emp, .emp, .own 1 0 v6.length]]), some (.row 1 (List.map vi v6))]) rfl ?_
  clear h
  rintro back ⟨v5, v6⟩ h
  dsimp only [restore_Cheapest_L1] at h
  refine sj ?_
  refine jv (vb (decide (v5 < a0.length))) (cy (I0 53 (.bin .lss false (.t 52) (.t 51)))) (n_lss (i := v5) (j := a0.length) rfl rfl) rfl ?_
  refine jp [(0, eS 6 eTask a0), (1, eS 3 eStocked a1), (2, eS 1 vt a2), (11, eS 6 eTask a0), (13, .ptr 0 0 0), (50, eS 6 eTask a0), (51, vi (a0.length : Int)), (52, vi v5), (53, vb (decide (v5 < a0.length)))] ?_
  refine TriE.seq ?_
  refine TriE.cond (b := decide (v5 < a0.length)) rfl (fun c4 => ?_) (fun c4 => ?_)
  · have h := cond_t h c4
    refine TriE.skip ?_
    refine TriE.seq ?_
    refine TriE.block ?_
    refine sj ?_
    refine jv (.fptr 6 (List.map eTask a0) v5 0) (cy (I0 54 (.iaddr 6 (.t 50) (.t 52)))) (ok_iaddr_m (j := v5) rfl rfl rfl c4) rfl ?_
    refine jv (.agg [vt ((ix a0 v5).Name), vi ((ix a0 v5).Cents), vi ((ix a0 v5).Hours), eS 1 vt ((ix a0 v5).Needs), eS 1 (eS 1 vt) ((ix a0 v5).OneOf), eS 2 ePartCount ((ix a0 v5).Parts)]) (cy (I0 55 (.load true 6 (.t 54)))) (ok_load_fm (v := .agg [vt ((ix a0 v5).Name), vi ((ix a0 v5).Cents), vi ((ix a0 v5).Hours), eS 1 vt ((ix a0 v5).Needs), eS 1 (eS 1 vt) ((ix a0 v5).OneOf), eS 2 ePartCount ((ix a0 v5).Parts)]) rfl c4 rfl) rfl ?_
    refine jq 2 [(0, eS 6 eTask a0), (1, eS 3 eStocked a1), (2, eS 1 vt a2), (11, eS 6 eTask a0), (13, .ptr 0 0 0), (50, eS 6 eTask a0), (51, vi (a0.length : Int)), (52, vi v5), (15, .ptr 2 0 0)] [some (.row 3 [.agg [.emp, .emp, .own 1 0 v6.length]]), some (.row 1 (List.map vi v6)), some (.row 6 [.agg [vt ((ix a0 v5).Name), vi ((ix a0 v5).Cents), vi ((ix a0 v5).Hours), eS 1 vt ((ix a0 v5).Needs), eS 1 (eS 1 vt) ((ix a0 v5).OneOf), eS 2 ePartCount ((ix a0 v5).Parts)]])] ?_
    refine sj ?_
    refine rn 2 [(0, eS 6 eTask a0), (1, eS 3 eStocked a1), (2, eS 1 vt a2), (11, eS 6 eTask a0), (13, .ptr 0 0 0), (50, eS 6 eTask a0), (51, vi (a0.length : Int)), (52, vi v5), (57, .agg [vt ((ix a0 v5).Name), vi ((ix a0 v5).Cents), vi ((ix a0 v5).Hours), eS 1 vt ((ix a0 v5).Needs), eS 1 (eS 1 vt) ((ix a0 v5).OneOf), eS 2 ePartCount ((ix a0 v5).Parts)]), (58, eS 3 eStocked a1)] [some (.row 3 [.agg [.emp, .emp, .own 1 0 v6.length]]), some (.row 1 (List.map vi v6)), some (.row 6 [.agg [vt ((ix a0 v5).Name), vi ((ix a0 v5).Cents), vi ((ix a0 v5).Hours), eS 1 vt ((ix a0 v5).Needs), eS 1 (eS 1 vt) ((ix a0 v5).OneOf), eS 2 ePartCount ((ix a0 v5).Parts)]])] ?_
    obtain ⟨y7, hy7, h⟩ := bind_some h
    refine RegJ.op (Op1.call (y' := .tup [vi y7.1, vb y7.2]) (obx := []) (oby := []) (ob2 := [some (.row 3 [.agg [.emp, .emp, .own 1 0 v6.length]]), some (.row 1 (List.map vi v6)), some (.row 6 [.agg [vt ((ix a0 v5).Name), vi ((ix a0 v5).Cents), vi ((ix a0 v5).Hours), eS 1 vt ((ix a0 v5).Needs), eS 1 (eS 1 vt) ((ix a0 v5).OneOf), eS 2 ePartCount ((ix a0 v5).Parts)]])]) _ _ (cy (I0 59 (.call 132 [(.t 57), (.t 58)]))) rfl (restore_costOf_ok n (ix a0 v5) a1 y7 hy7) [] (by kernel_rfl) (.cons rfl (.cons rfl (.cons rfl .nil))) (by kernel_rfl) (by kernel_rfl) ObsRen.nil (by kernel_rfl) ObsRen.nil (by kernel_rfl)) ?_
    refine jq 5 [(0, eS 6 eTask a0), (1, eS 3 eStocked a1), (2, eS 1 vt a2), (11, eS 6 eTask a0), (13, .ptr 0 0 0), (50, eS 6 eTask a0), (51, vi (a0.length : Int)), (52, vi v5), (16, vi y7.1), (17, vb y7.2)] [some (.row 3 [.agg [.emp, .emp, .own 1 0 v6.length]]), some (.row 1 (List.map vi v6)), some (.row 6 [.agg [vt ((ix a0 v5).Name), vi ((ix a0 v5).Cents), vi ((ix a0 v5).Hours), eS 1 vt ((ix a0 v5).Needs), eS 1 (eS 1 vt) ((ix a0 v5).OneOf), eS 2 ePartCount ((ix a0 v5).Parts)]])] ?_
    refine TriE.seq ?_
    refine sr [(0, eS 6 eTask a0), (1, eS 3 eStocked a1), (2, eS 1 vt a2), (11, eS 6 eTask a0), (13, .ptr 0 0 0), (50, eS 6 eTask a0), (51, vi (a0.length : Int)), (52, vi v5), (16, vi y7.1), (63, vb (!y7.2))] [some (.row 3 [.agg [.emp, .emp, .own 1 0 v6.length]]), some (.row 1 (List.map vi v6)), some (.row 6 [.agg [vt ((ix a0 v5).Name), vi ((ix a0 v5).Cents), vi ((ix a0 v5).Hours), eS 1 vt ((ix a0 v5).Needs), eS 1 (eS 1 vt) ((ix a0 v5).OneOf), eS 2 ePartCount ((ix a0 v5).Parts)]])] ?_
    refine TriE.cond (b := !y7.2) rfl (fun c5 => ?_) (fun c5 => ?_)
    · have h := cond_t h c5
      refine sr [(6, .emp), (7, vi 0), (8, vi 6)] [some (.row 3 [.agg [.emp, .emp, .own 1 0 v6.length]]), some (.row 1 (List.map vi v6)), some (.row 6 [.agg [vt ((ix a0 v5).Name), vi ((ix a0 v5).Cents), vi ((ix a0 v5).Hours), eS 1 vt ((ix a0 v5).Needs), eS 1 (eS 1 vt) ((ix a0 v5).OneOf), eS 2 ePartCount ((ix a0 v5).Parts)]])] ?_
      refine TriE.ret ?_
      have h := Option.some.inj h
      subst h
      exact DoneS.ret (S' := ⟨[(6, eS 1 vt ([] : List Str)), (7, vi 0), (8, vi 6)], []⟩) (Sees.trans (Sees.vco (fr' := [(6, eS 1 vt ([] : List Str)), (7, vi 0), (8, vi 6)]) (.cons .sl (.cons .same (.cons .same .nil)))) (sc [] (by decide) (by kernel_rfl) ObRen.nil rfl rfl)) rfl rfl
    have h := cond_f h c5
    refine TriE.skip ?_
    refine TriE.regJ ?_
    refine rn 7 [(0, eS 6 eTask a0), (1, eS 3 eStocked a1), (2, eS 1 vt a2), (11, eS 6 eTask a0), (13, .ptr 0 0 0), (50, eS 6 eTask a0), (51, vi (a0.length : Int)), (52, vi v5), (64, .ptr 0 0 0), (68, .own 1 0 v6.length), (70, .own 3 0 1)] [some (.row 3 [.agg [.emp, .emp, .own 1 0 v6.length]]), some (.row 1 (List.map vi v6)), some (.row 6 [.agg [vt ((ix a0 v5).Name), vi ((ix a0 v5).Cents), vi ((ix a0 v5).Hours), eS 1 vt ((ix a0 v5).Needs), eS 1 (eS 1 vt) ((ix a0 v5).OneOf), eS 2 ePartCount ((ix a0 v5).Parts)]]), some (.row 1 [vi y7.1])] ?_
    obtain ⟨c6, h⟩ := chk_some h
    refine je (.own 4 0 ((v6 ++ ([y7.1] : List Int)).length)) [some (.row 3 [.agg [.emp, .emp, .own 1 0 v6.length]]), none, some (.row 6 [.agg [vt ((ix a0 v5).Name), vi ((ix a0 v5).Cents), vi ((ix a0 v5).Hours), eS 1 vt ((ix a0 v5).Needs), eS 1 (eS 1 vt) ((ix a0 v5).OneOf), eS 2 ePartCount ((ix a0 v5).Parts)]]), some (.row 1 [vi y7.1]), some (.row 1 (List.map vi (v6 ++ ([y7.1] : List Int))))] (cy (I0 71 (.app 1 8 (.t 68) (.t 70)))) (ok_app_own (l := v6) (l2 := ([y7.1] : List Int)) (e := vi) (u := .own 3 0 1) rfl rfl rfl rfl rfl c6) rfl rfl rfl ?_
    refine jq 3 [(0, eS 6 eTask a0), (1, eS 3 eStocked a1), (2, eS 1 vt a2), (11, eS 6 eTask a0), (13, .ptr 0 0 0), (50, eS 6 eTask a0), (51, vi (a0.length : Int)), (52, vi v5)] [some (.row 3 [.agg [.emp, .emp, .own 4 0 ((v6 ++ ([y7.1] : List Int)).length)]]), none, some (.row 6 [.agg [vt ((ix a0 v5).Name), vi ((ix a0 v5).Cents), vi ((ix a0 v5).Hours), eS 1 vt ((ix a0 v5).Needs), eS 1 (eS 1 vt) ((ix a0 v5).OneOf), eS 2 ePartCount ((ix a0 v5).Parts)]]), some (.row 1 [vi y7.1]), some (.row 1 (List.map vi (v6 ++ ([y7.1] : List Int))))] ?_
    refine TriE.regJ ?_
    obtain ⟨c7, h⟩ := chk_some h
    refine jv (vi ((v5 + 1 : Nat) : Int)) (cy (I0 74 (.bin .add false (.t 52) (.c (.p (.int .i64 1)))))) (r_addn (i := v5) (j := 1) rfl rfl c7) rfl ?_
    refine jq 1 [(0, eS 6 eTask a0), (1, eS 3 eStocked a1), (2, eS 1 vt a2), (11, eS 6 eTask a0), (13, .ptr 0 0 0), (50, eS 6 eTask a0), (51, vi (a0.length : Int)), (52, vi ((v5 + 1 : Nat) : Int))] [some (.row 3 [.agg [.emp, .emp, .own 4 0 ((v6 ++ ([y7.1] : List Int)).length)]]), none, some (.row 6 [.agg [vt ((ix a0 v5).Name), vi ((ix a0 v5).Cents), vi ((ix a0 v5).Hours), eS 1 vt ((ix a0 v5).Needs), eS 1 (eS 1 vt) ((ix a0 v5).OneOf), eS 2 ePartCount ((ix a0 v5).Parts)]]), some (.row 1 [vi y7.1]), some (.row 1 (List.map vi (v6 ++ ([y7.1] : List Int))))] ?_
    exact Vs.intro (sc [0, 4] (by decide) (by kernel_rfl) (.cons rfl (obRen_row vi_frz rfl .nil)) rfl rfl) ⟨(v5 + 1, (v6 ++ ([y7.1] : List Int))), rfl, h⟩
  have h := cond_f h c4
  refine TriE.exit ?_
  exact Vs.intro sy ⟨v6, rfl, h⟩
theorem restore_checkWire_f2_ok (n : Nat) (a0 : Coil) (r : Unit) (h : restore_checkWire_f2 n a0 = some r) : FnL Tryz.prog 164 [.agg [vt a0.Name, vi a0.Gauge, vi a0.Length]] [] (vt a0.Name) [] := by
  dsimp only [restore_checkWire_f2] at h
  refine FnL.ofS (ts := [2]) Tryz.call164 Tryz.func164 rfl rfl (Nat.le_of_ble_eq_true rfl) (Nat.le_of_ble_eq_true rfl) (fun j h => absurd h (Nat.not_lt_zero j)) ?_
  refine sr [(1, .ptr 0 0 0)] [some (.row 3 [.agg [vt a0.Name, vi a0.Gauge, vi a0.Length]])] ?_
  refine sr [(2, vt a0.Name)] [some (.row 3 [.agg [vt a0.Name, vi a0.Gauge, vi a0.Length]])] ?_
  refine TriE.ret ?_
  have h := Option.some.inj h
  subst h
  exact DoneS.ret (S' := ⟨[(2, vt a0.Name)], []⟩) (sc [] (by decide) (by kernel_rfl) ObRen.nil rfl rfl) rfl rfl
theorem restore_checkWire_f1_ok (n : Nat) (a0 : Coil) (r : Int) (h : restore_checkWire_f1 n a0 = some r) : FnL Tryz.prog 162 [.agg [vt a0.Name, vi a0.Gauge, vi a0.Length]] [] (vi r) [] := by
  dsimp only [restore_checkWire_f1] at h
  refine FnL.ofS (ts := [2]) Tryz.call162 Tryz.func162 rfl rfl (Nat.le_of_ble_eq_true rfl) (Nat.le_of_ble_eq_true rfl) (fun j h => absurd h (Nat.not_lt_zero j)) ?_
  refine sr [(1, .ptr 0 0 0)] [some (.row 3 [.agg [vt a0.Name, vi a0.Gauge, vi a0.Length]])] ?_
  refine TriE.seq ?_
  refine sj ?_
  refine rn 2 [(1, .ptr 0 0 0), (4, vi a0.Gauge)] [some (.row 3 [.agg [vt a0.Name, vi a0.Gauge, vi a0.Length]])] ?_
  obtain ⟨y1, hy1, h⟩ := bind_some h
  refine RegJ.op (Op1.call (y' := vb ((decide (100 ≤ a0.Gauge)) && (decide (a0.Gauge ≤ 3000)))) (obx := []) (oby := []) (ob2 := [some (.row 3 [.agg [vt a0.Name, vi a0.Gauge, vi a0.Length]])]) _ _ (cy (I0 5 (.call 91 [(.t 4), (.c (.p (.int .i64 100))), (.c (.p (.int .i64 3000)))]))) rfl (restore_within_ok n a0.Gauge 100 3000 y1 hy1) [] (by kernel_rfl) (.cons rfl (.cons rfl (.cons rfl (.cons rfl .nil)))) (by kernel_rfl) (by kernel_rfl) ObsRen.nil (by kernel_rfl) ObsRen.nil (by kernel_rfl)) ?_
  refine rn 2 [(1, .ptr 0 0 0), (7, vb (!((decide (100 ≤ a0.Gauge)) && (decide (a0.Gauge ≤ 3000)))))] [some (.row 3 [.agg [vt a0.Name, vi a0.Gauge, vi a0.Length]])] ?_
  refine RegJ.op (Op1.valk (v := .ptr 0 0 2) _ _ (cy (IG 8 (.faddr 2 (.t 1)) 7 false)) rfl (by kernel_rfl) (fun hg => (.cons rfl .nil))) ?_
  refine RegJ.op (Op1.valk (v := vi a0.Length) _ _ (cy (IG 9 (.load false 1 (.t 8)) 7 false)) rfl (by kernel_rfl) (fun hg => (.cons hg .nil))) ?_
  obtain ⟨y2, hy2, h⟩ := bind_some h
  refine RegJ.op (Op1.callg (g := !(!((decide (100 ≤ a0.Gauge)) && (decide (a0.Gauge ≤ 3000))))) (y' := vb ((decide (0 ≤ a0.Length)) && (decide (a0.Length ≤ 1000000000)))) (obx := []) _ _ (cy (IG 10 (.call 91 [(.t 9), (.c (.p (.int .i64 0))), (.c (.p (.int .i64 1000000000)))]) 7 false)) rfl (fun hg => restore_within_ok n a0.Length 0 1000000000 y2 (gcall_some hy2 hg)) [] (fun hg => by kernel_rfl) (fun hg => (.cons rfl (.cons hg (.cons rfl (.cons rfl .nil))))) (by kernel_rfl) (by kernel_rfl) ObsRen.nil (by kernel_rfl) (by kernel_rfl)) ?_
  refine RegJ.op (Op1.valk (v := vb (!((decide (0 ≤ a0.Length)) && (decide (a0.Length ≤ 1000000000))))) _ _ (cy (IG 11 (.un .not (.t 10)) 7 false)) rfl (by kernel_rfl) (fun hg => (.cons hg .nil))) ?_
  refine RegJ.op (Op1.or (cy (I0 12 (.pick (.t 7) (.c (.p (.bool true))) (.t 11)))) rfl rfl (by first | exact hokO1 | exact hokO0 | simp)) ?_
  refine jp [(12, vb ((!((decide (100 ≤ a0.Gauge)) && (decide (a0.Gauge ≤ 3000)))) || (!((decide (0 ≤ a0.Length)) && (decide (a0.Length ≤ 1000000000))))))] ?_
  refine TriE.cond (b := (!((decide (100 ≤ a0.Gauge)) && (decide (a0.Gauge ≤ 3000)))) || (!((decide (0 ≤ a0.Length)) && (decide (a0.Length ≤ 1000000000))))) rfl (fun c1 => ?_) (fun c1 => ?_)
  · have h := cond_t h c1
    refine sr [(2, vi 2)] [some (.row 3 [.agg [vt a0.Name, vi a0.Gauge, vi a0.Length]])] ?_
    refine TriE.ret ?_
    have h := Option.some.inj h
    subst h
    exact DoneS.ret (S' := ⟨[(2, vi 2)], []⟩) (sc [] (by decide) (by kernel_rfl) ObRen.nil rfl rfl) rfl rfl
  have h := cond_f h c1
  refine TriE.skip ?_
  refine sr [(2, vi 0)] [some (.row 3 [.agg [vt a0.Name, vi a0.Gauge, vi a0.Length]])] ?_
  refine TriE.ret ?_
  have h := Option.some.inj h
  subst h
  exact DoneS.ret (S' := ⟨[(2, vi 0)], []⟩) (sc [] (by decide) (by kernel_rfl) ObRen.nil rfl rfl) rfl rfl
theorem restore_named_Coil_ok (n : Nat) (a0 : List Coil) (a1 : Int) (r : Int) (h : restore_named_Coil n a0 a1 = some r) : FnL Tryz.prog 163 [eS 3 eCoil a0, vi a1, .fn (.func 164) [] [], .fn (.func 162) [] []] [] (vi r) [] := by
  dsimp only [restore_named_Coil] at h
  refine FnL.ofS (ts := [8]) Tryz.call163 Tryz.func163 rfl rfl (Nat.le_of_ble_eq_true rfl) (Nat.le_of_ble_eq_true rfl) (fun j h => absurd h (Nat.not_lt_zero j)) ?_
  refine sr [(0, eS 3 eCoil a0), (1, vi a1), (2, .fn (.func 164) [] []), (3, .fn (.func 162) [] [])] [] ?_
  refine TriE.seq ?_
  refine sj ?_
  refine rn 1 [(0, eS 3 eCoil a0), (1, vi a1), (2, .fn (.func 164) [] []), (3, .fn (.func 162) [] []), (14, eS 3 eCoil a0)] [] ?_
  refine jv (vi (a0.length : Int)) (cy (I0 15 (.len 0 (.t 14)))) (ok_len_m rfl) rfl ?_
  refine jq 2 [(0, eS 3 eCoil a0), (2, .fn (.func 164) [] []), (3, .fn (.func 162) [] []), (17, vb (decide (a1 < (a0.length : Int))))] [] ?_
  refine TriE.cond (b := decide (a1 < (a0.length : Int))) rfl (fun c1 => ?_) (fun c1 => ?_)
  · have h := cond_t h c1
    refine sr [(8, vi 8)] [] ?_
    refine TriE.ret ?_
    have h := Option.some.inj h
    subst h
    exact DoneS.ret (S' := ⟨[(8, vi 8)], []⟩) Sees.refl rfl rfl
  have h := cond_f h c1
  refine TriE.skip ?_
  refine sj ?_
  refine je (.map 0) [some (.mp (mpE vt vb ([] : List (Str × Bool))))] (cy (I0 18 .mkmap)) rfl rfl rfl rfl ?_
  refine jq 1 [(0, eS 3 eCoil a0), (2, .fn (.func 164) [] []), (3, .fn (.func 162) [] []), (9, .map 0)] [some (.mp (mpE vt vb ([] : List (Str × Bool))))] ?_
  refine TriE.seqK h (fun (_ : Unit) => St.mk [] []) ?_ ?_
  · rintro ⟨⟩ h
    refine sr [(8, vi 0)] [] ?_
    refine TriE.ret ?_
    have h := Option.some.inj h
    subst h
    exact DoneS.ret (S' := ⟨[(8, vi 0)], []⟩) Sees.refl rfl rfl
  intro k1 h
  refine sj ?_
  refine rn 1 [(2, .fn (.func 164) [] []), (3, .fn (.func 162) [] []), (9, .map 0), (19, eS 3 eCoil a0)] [some (.mp (mpE vt vb ([] : List (Str × Bool))))] ?_
  refine jv (vi (a0.length : Int)) (cy (I0 20 (.len 0 (.t 19)))) (ok_len_m rfl) rfl ?_
  refine jq 1 [(2, .fn (.func 164) [] []), (3, .fn (.func 162) [] []), (9, .map 0), (19, eS 3 eCoil a0), (20, vi (a0.length : Int)), (21, vi 0)] [some (.mp (mpE vt vb ([] : List (Str × Bool))))] ?_
  refine TriE.block ?_
  refine TriE.sees (S' := ⟨[(2, .fn (.func 164) [] []), (3, .fn (.func 162) [] []), (9, .map 0), (19, eS 3 eCoil a0), (20, vi (a0.length : Int)), (21, vi 0)], [some (.mp (mpE vt vb ([] : List (Str × Bool))))]⟩) sy ?_
  refine TriE.loopN h (fun (t : Nat × (List (Str × Bool))) => match t with | (v4, v5) => St.mk [(2, .fn (.func 164) [] []), (3, .fn (.func 162) [] []), (9, .map 0), (19, eS 3 eCoil a0), (20, vi (a0.length : Int)), (21, vi v4)] [some (.mp (mpE vt vb v5))]) rfl ?_
  clear h
  rintro back ⟨v4, v5⟩ h
  dsimp only [restore_named_Coil_L1] at h
  refine sj ?_
  refine jv (vb (decide (v4 < a0.length))) (cy (I0 22 (.bin .lss false (.t 21) (.t 20)))) (n_lss (i := v4) (j := a0.length) rfl rfl) rfl ?_
  refine jp [(2, .fn (.func 164) [] []), (3, .fn (.func 162) [] []), (9, .map 0), (19, eS 3 eCoil a0), (20, vi (a0.length : Int)), (21, vi v4), (22, vb (decide (v4 < a0.length)))] ?_
  refine TriE.seq ?_
  refine TriE.cond (b := decide (v4 < a0.length)) rfl (fun c2 => ?_) (fun c2 => ?_)
  · have h := cond_t h c2
    refine TriE.skip ?_
    refine TriE.seq ?_
    refine TriE.block ?_
    refine sj ?_
    refine jv (.fptr 3 (List.map eCoil a0) v4 0) (cy (I0 23 (.iaddr 3 (.t 19) (.t 21)))) (ok_iaddr_m (j := v4) rfl rfl rfl c2) rfl ?_
    refine jv (.agg [vt ((ix a0 v4).Name), vi ((ix a0 v4).Gauge), vi ((ix a0 v4).Length)]) (cy (I0 24 (.load true 3 (.t 23)))) (ok_load_fm (v := .agg [vt ((ix a0 v4).Name), vi ((ix a0 v4).Gauge), vi ((ix a0 v4).Length)]) rfl c2 rfl) rfl ?_
    refine jq 2 [(2, .fn (.func 164) [] []), (3, .fn (.func 162) [] []), (9, .map 0), (19, eS 3 eCoil a0), (20, vi (a0.length : Int)), (21, vi v4), (11, .ptr 1 0 0)] [some (.mp (mpE vt vb v5)), some (.row 3 [.agg [vt ((ix a0 v4).Name), vi ((ix a0 v4).Gauge), vi ((ix a0 v4).Length)]])] ?_
    refine TriE.seq ?_
    refine sj ?_
    refine rn 2 [(2, .fn (.func 164) [] []), (3, .fn (.func 162) [] []), (9, .map 0), (19, eS 3 eCoil a0), (20, vi (a0.length : Int)), (21, vi v4), (11, .ptr 1 0 0), (25, .fn (.func 164) [] []), (26, .agg [vt ((ix a0 v4).Name), vi ((ix a0 v4).Gauge), vi ((ix a0 v4).Length)])] [some (.mp (mpE vt vb v5)), some (.row 3 [.agg [vt ((ix a0 v4).Name), vi ((ix a0 v4).Gauge), vi ((ix a0 v4).Length)]])] ?_
    obtain ⟨y6, hy6, h⟩ := bind_some h
    refine RegJ.op (Op1.dyn (y' := vt ((ix a0 v4).Name)) (obx := []) (oby := []) (ob2 := [some (.mp (mpE vt vb v5)), some (.row 3 [.agg [vt ((ix a0 v4).Name), vi ((ix a0 v4).Gauge), vi ((ix a0 v4).Length)]])]) _ _ _ (cy (I0 27 (.dyn (.t 25) [(.t 26)]))) rfl rfl (restore_checkWire_f2_ok n (ix a0 v4) y6 hy6) [] (by kernel_rfl) (.cons rfl (.cons rfl .nil)) (by kernel_rfl) (by kernel_rfl) ObsRen.nil (by kernel_rfl) ObsRen.nil (by kernel_rfl)) ?_
    refine jq 1 [(2, .fn (.func 164) [] []), (3, .fn (.func 162) [] []), (9, .map 0), (19, eS 3 eCoil a0), (20, vi (a0.length : Int)), (21, vi v4), (11, .ptr 1 0 0), (12, vt ((ix a0 v4).Name))] [some (.mp (mpE vt vb v5)), some (.row 3 [.agg [vt ((ix a0 v4).Name), vi ((ix a0 v4).Gauge), vi ((ix a0 v4).Length)]])] ?_
    refine TriE.block ?_
    refine sj ?_
    refine rn 1 [(2, .fn (.func 164) [] []), (3, .fn (.func 162) [] []), (9, .map 0), (19, eS 3 eCoil a0), (20, vi (a0.length : Int)), (21, vi v4), (11, .ptr 1 0 0), (12, vt ((ix a0 v4).Name)), (31, vt ((ix a0 v4).Name))] [some (.mp (mpE vt vb v5)), some (.row 3 [.agg [vt ((ix a0 v4).Name), vi ((ix a0 v4).Gauge), vi ((ix a0 v4).Length)]])] ?_
    obtain ⟨y7, hy7, h⟩ := bind_some h
    refine RegJ.op (Op1.call (y' := vb y7) (obx := []) (oby := []) (ob2 := [some (.mp (mpE vt vb v5)), some (.row 3 [.agg [vt ((ix a0 v4).Name), vi ((ix a0 v4).Gauge), vi ((ix a0 v4).Length)]])]) _ _ (cy (I0 32 (.call 89 [(.t 31)]))) rfl (restore_isName_ok n ((ix a0 v4).Name) y7 hy7) [] (by kernel_rfl) (.cons rfl (.cons rfl .nil)) (by kernel_rfl) (by kernel_rfl) ObsRen.nil (by kernel_rfl) ObsRen.nil (by kernel_rfl)) ?_
    refine jq 2 [(2, .fn (.func 164) [] []), (3, .fn (.func 162) [] []), (9, .map 0), (19, eS 3 eCoil a0), (20, vi (a0.length : Int)), (21, vi v4), (11, .ptr 1 0 0), (12, vt ((ix a0 v4).Name)), (30, vb (!y7))] [some (.mp (mpE vt vb v5)), some (.row 3 [.agg [vt ((ix a0 v4).Name), vi ((ix a0 v4).Gauge), vi ((ix a0 v4).Length)]])] ?_
    refine TriE.cond (b := !y7) rfl (fun c3 => ?_) (fun c3 => ?_)
    · have h := cond_t h c3
      refine sr [(8, vi 4)] [some (.mp (mpE vt vb v5)), some (.row 3 [.agg [vt ((ix a0 v4).Name), vi ((ix a0 v4).Gauge), vi ((ix a0 v4).Length)]])] ?_
      refine TriE.ret ?_
      have h := Option.some.inj h
      subst h
      exact DoneS.ret (S' := ⟨[(8, vi 4)], []⟩) (sc [] (by decide) (by kernel_rfl) ObRen.nil rfl rfl) rfl rfl
    have h := cond_f h c3
    refine sj ?_
    refine rn 2 [(2, .fn (.func 164) [] []), (3, .fn (.func 162) [] []), (9, .map 0), (19, eS 3 eCoil a0), (20, vi (a0.length : Int)), (21, vi v4), (11, .ptr 1 0 0), (12, vt ((ix a0 v4).Name)), (35, .map 0), (36, vt ((ix a0 v4).Name))] [some (.mp (mpE vt vb v5)), some (.row 3 [.agg [vt ((ix a0 v4).Name), vi ((ix a0 v4).Gauge), vi ((ix a0 v4).Length)]])] ?_
    refine jv (vb (Option.getD (List.lookup ((ix a0 v4).Name) v5) false)) (cy (I0 37 (.lookup true (.p (.bool false)) false (.t 35) (.t 36)))) (ok_lookup_s (l := v5) (ev := vb) (z0 := false) rfl rfl rfl rfl) rfl ?_
    refine jq 1 [(2, .fn (.func 164) [] []), (3, .fn (.func 162) [] []), (9, .map 0), (19, eS 3 eCoil a0), (20, vi (a0.length : Int)), (21, vi v4), (11, .ptr 1 0 0), (12, vt ((ix a0 v4).Name)), (34, vb (Option.getD (List.lookup ((ix a0 v4).Name) v5) false))] [some (.mp (mpE vt vb v5)), some (.row 3 [.agg [vt ((ix a0 v4).Name), vi ((ix a0 v4).Gauge), vi ((ix a0 v4).Length)]])] ?_
    refine TriE.cond (b := (Option.getD (List.lookup ((ix a0 v4).Name) v5) false)) rfl (fun c4 => ?_) (fun c4 => ?_)
    · have h := cond_t h c4
      refine sr [(8, vi 5)] [some (.mp (mpE vt vb v5)), some (.row 3 [.agg [vt ((ix a0 v4).Name), vi ((ix a0 v4).Gauge), vi ((ix a0 v4).Length)]])] ?_
      refine TriE.ret ?_
      have h := Option.some.inj h
      subst h
      exact DoneS.ret (S' := ⟨[(8, vi 5)], []⟩) (sc [] (by decide) (by kernel_rfl) ObRen.nil rfl rfl) rfl rfl
    have h := cond_f h c4
    refine TriE.regJ ?_
    refine rn 2 [(2, .fn (.func 164) [] []), (3, .fn (.func 162) [] []), (9, .map 0), (19, eS 3 eCoil a0), (20, vi (a0.length : Int)), (21, vi v4), (11, .ptr 1 0 0), (28, .map 0), (29, vt ((ix a0 v4).Name))] [some (.mp (mpE vt vb v5)), some (.row 3 [.agg [vt ((ix a0 v4).Name), vi ((ix a0 v4).Gauge), vi ((ix a0 v4).Length)]])] ?_
    refine je (.undef) [some (.mp (mpE vt vb (mPut ((ix a0 v4).Name) true v5))), some (.row 3 [.agg [vt ((ix a0 v4).Name), vi ((ix a0 v4).Gauge), vi ((ix a0 v4).Length)]])] (cy (IN (.mapset true (.t 28) (.t 29) (.c (.p (.bool true)))))) (ok_mapset_s (l := v5) (ev := vb) (v := true) rfl rfl rfl rfl) rfl rfl rfl ?_
    refine jp [(2, .fn (.func 164) [] []), (3, .fn (.func 162) [] []), (9, .map 0), (19, eS 3 eCoil a0), (20, vi (a0.length : Int)), (21, vi v4), (11, .ptr 1 0 0)] ?_
    refine sj ?_
    refine rn 2 [(2, .fn (.func 164) [] []), (3, .fn (.func 162) [] []), (9, .map 0), (19, eS 3 eCoil a0), (20, vi (a0.length : Int)), (21, vi v4), (38, .fn (.func 162) [] []), (39, .agg [vt ((ix a0 v4).Name), vi ((ix a0 v4).Gauge), vi ((ix a0 v4).Length)])] [some (.mp (mpE vt vb (mPut ((ix a0 v4).Name) true v5))), some (.row 3 [.agg [vt ((ix a0 v4).Name), vi ((ix a0 v4).Gauge), vi ((ix a0 v4).Length)]])] ?_
    obtain ⟨y8, hy8, h⟩ := bind_some h
    refine RegJ.op (Op1.dyn (y' := vi y8) (obx := []) (oby := []) (ob2 := [some (.mp (mpE vt vb (mPut ((ix a0 v4).Name) true v5))), some (.row 3 [.agg [vt ((ix a0 v4).Name), vi ((ix a0 v4).Gauge), vi ((ix a0 v4).Length)]])]) _ _ _ (cy (I0 40 (.dyn (.t 38) [(.t 39)]))) rfl rfl (restore_checkWire_f1_ok n (ix a0 v4) y8 hy8) [] (by kernel_rfl) (.cons rfl (.cons rfl .nil)) (by kernel_rfl) (by kernel_rfl) ObsRen.nil (by kernel_rfl) ObsRen.nil (by kernel_rfl)) ?_
    refine jq 1 [(2, .fn (.func 164) [] []), (3, .fn (.func 162) [] []), (9, .map 0), (19, eS 3 eCoil a0), (20, vi (a0.length : Int)), (21, vi v4), (13, vi y8)] [some (.mp (mpE vt vb (mPut ((ix a0 v4).Name) true v5))), some (.row 3 [.agg [vt ((ix a0 v4).Name), vi ((ix a0 v4).Gauge), vi ((ix a0 v4).Length)]])] ?_
    refine sr [(2, .fn (.func 164) [] []), (3, .fn (.func 162) [] []), (9, .map 0), (19, eS 3 eCoil a0), (20, vi (a0.length : Int)), (21, vi v4), (13, vi y8), (42, vb (y8 != (0 : Int)))] [some (.mp (mpE vt vb (mPut ((ix a0 v4).Name) true v5))), some (.row 3 [.agg [vt ((ix a0 v4).Name), vi ((ix a0 v4).Gauge), vi ((ix a0 v4).Length)]])] ?_
    refine TriE.cond (b := (y8 != (0 : Int))) rfl (fun c5 => ?_) (fun c5 => ?_)
    · have h := cond_t h c5
      refine sr [(8, vi y8)] [some (.mp (mpE vt vb (mPut ((ix a0 v4).Name) true v5))), some (.row 3 [.agg [vt ((ix a0 v4).Name), vi ((ix a0 v4).Gauge), vi ((ix a0 v4).Length)]])] ?_
      refine TriE.ret ?_
      have h := Option.some.inj h
      subst h
      exact DoneS.ret (S' := ⟨[(8, vi y8)], []⟩) (sc [] (by decide) (by kernel_rfl) ObRen.nil rfl rfl) rfl rfl
    have h := cond_f h c5
    refine TriE.skip ?_
    refine TriE.regJ ?_
    obtain ⟨c6, h⟩ := chk_some h
    refine jv (vi ((v4 + 1 : Nat) : Int)) (cy (I0 44 (.bin .add false (.t 21) (.c (.p (.int .i64 1)))))) (r_addn (i := v4) (j := 1) rfl rfl c6) rfl ?_
    refine jq 1 [(2, .fn (.func 164) [] []), (3, .fn (.func 162) [] []), (9, .map 0), (19, eS 3 eCoil a0), (20, vi (a0.length : Int)), (21, vi ((v4 + 1 : Nat) : Int))] [some (.mp (mpE vt vb (mPut ((ix a0 v4).Name) true v5))), some (.row 3 [.agg [vt ((ix a0 v4).Name), vi ((ix a0 v4).Gauge), vi ((ix a0 v4).Length)]])] ?_
    exact Vs.intro (sc [0] (by decide) (by kernel_rfl) (obRen_mp vt_frz vb_frz rfl .nil) rfl rfl) ⟨(v4 + 1, (mPut ((ix a0 v4).Name) true v5)), rfl, h⟩
  have h := cond_f h c2
  refine TriE.exit ?_
  exact Vs.intro (sc [] (by decide) (by kernel_rfl) ObRen.nil rfl rfl) ⟨(), rfl, h⟩
theorem restore_checkWire_ok (n : Nat) (a0 : List Coil) (a1 : List WirePiece) (r : Int) (h : restore_checkWire n a0 a1 = some r) : FnL Tryz.prog 98 [eS 3 eCoil a0, eS 3 eWirePiece a1] [] (vi r) [] := by
  dsimp only [restore_checkWire] at h
  refine FnL.ofS (ts := [4]) Tryz.call98 Tryz.func98 rfl rfl (Nat.le_of_ble_eq_true rfl) (Nat.le_of_ble_eq_true rfl) (fun j h => absurd h (Nat.not_lt_zero j)) ?_
  refine sr [(0, eS 3 eCoil a0), (1, eS 3 eWirePiece a1)] [] ?_
  refine sr [(0, eS 3 eCoil a0), (1, eS 3 eWirePiece a1), (5, .fn (.func 162) [] [])] [] ?_
  refine TriE.seq ?_
  refine sj ?_
  refine rn 2 [(1, eS 3 eWirePiece a1), (9, eS 3 eCoil a0), (10, .fn (.func 162) [] [])] [] ?_
  obtain ⟨y1, hy1, h⟩ := bind_some h
  refine RegJ.op (Op1.call (y' := vi y1) (obx := []) (oby := []) (ob2 := []) _ _ (cy (I0 11 (.call 163 [(.t 9), (.c (.p (.int .i64 40))), (.c (.fn (.func 164) [] [])), (.t 10)]))) rfl (restore_named_Coil_ok n a0 40 y1 hy1) [] (by kernel_rfl) (.cons rfl (.cons rfl (.cons rfl (.cons rfl (.cons rfl .nil))))) (by kernel_rfl) (by kernel_rfl) ObsRen.nil (by kernel_rfl) ObsRen.nil (by kernel_rfl)) ?_
  refine jq 1 [(1, eS 3 eWirePiece a1), (6, vi y1)] [] ?_
  refine sr [(1, eS 3 eWirePiece a1), (6, vi y1), (13, vb (y1 != (0 : Int)))] [] ?_
  refine TriE.cond (b := (y1 != (0 : Int))) rfl (fun c1 => ?_) (fun c1 => ?_)
  · have h := cond_t h c1
    refine sr [(4, vi y1)] [] ?_
    refine TriE.ret ?_
    have h := Option.some.inj h
    subst h
    exact DoneS.ret (S' := ⟨[(4, vi y1)], []⟩) Sees.refl rfl rfl
  have h := cond_f h c1
  refine TriE.skip ?_
  refine TriE.seq ?_
  refine sj ?_
  refine rn 1 [(1, eS 3 eWirePiece a1), (15, eS 3 eWirePiece a1)] [] ?_
  refine jv (vi (a1.length : Int)) (cy (I0 16 (.len 0 (.t 15)))) (ok_len_m rfl) rfl ?_
  refine jv (vb (decide (60 < a1.length))) (cy (I0 17 (.bin .gtr false (.t 16) (.c (.p (.int .i64 60)))))) (n_gtr (i := a1.length) (j := 60) rfl rfl) rfl ?_
  refine jp [(1, eS 3 eWirePiece a1), (17, vb (decide (60 < a1.length)))] ?_
  refine TriE.cond (b := decide (60 < a1.length)) rfl (fun c2 => ?_) (fun c2 => ?_)
  · have h := cond_t h c2
    refine sr [(4, vi 8)] [] ?_
    refine TriE.ret ?_
    have h := Option.some.inj h
    subst h
    exact DoneS.ret (S' := ⟨[(4, vi 8)], []⟩) Sees.refl rfl rfl
  have h := cond_f h c2
  refine TriE.skip ?_
  refine TriE.seqK h (fun (_ : Unit) => St.mk [] []) ?_ ?_
  · rintro ⟨⟩ h
    refine sr [(4, vi 0)] [] ?_
    refine TriE.ret ?_
    have h := Option.some.inj h
    subst h
    exact DoneS.ret (S' := ⟨[(4, vi 0)], []⟩) Sees.refl rfl rfl
  intro k1 h
  refine sj ?_
  refine rn 1 [(18, eS 3 eWirePiece a1)] [] ?_
  refine jv (vi (a1.length : Int)) (cy (I0 19 (.len 0 (.t 18)))) (ok_len_m rfl) rfl ?_
  refine jq 1 [(18, eS 3 eWirePiece a1), (19, vi (a1.length : Int)), (20, vi 0)] [] ?_
  refine TriE.block ?_
  refine TriE.sees (S' := ⟨[(18, eS 3 eWirePiece a1), (19, vi (a1.length : Int)), (20, vi 0)], []⟩) sy ?_
  refine TriE.loopN h (fun (v5 : Nat) => St.mk [(18, eS 3 eWirePiece a1), (19, vi (a1.length : Int)), (20, vi v5)] []) rfl ?_
  clear h
  rintro back v5 h
  dsimp only [restore_checkWire_L1] at h
  refine sj ?_
  refine jv (vb (decide (v5 < a1.length))) (cy (I0 21 (.bin .lss false (.t 20) (.t 19)))) (n_lss (i := v5) (j := a1.length) rfl rfl) rfl ?_
  refine jp [(18, eS 3 eWirePiece a1), (19, vi (a1.length : Int)), (20, vi v5), (21, vb (decide (v5 < a1.length)))] ?_
  refine TriE.seq ?_
  refine TriE.cond (b := decide (v5 < a1.length)) rfl (fun c3 => ?_) (fun c3 => ?_)
  · have h := cond_t h c3
    refine TriE.skip ?_
    refine TriE.seq ?_
    refine TriE.block ?_
    refine sj ?_
    refine jv (.fptr 3 (List.map eWirePiece a1) v5 0) (cy (I0 22 (.iaddr 3 (.t 18) (.t 20)))) (ok_iaddr_m (j := v5) rfl rfl rfl c3) rfl ?_
    refine jv (.agg [vi ((ix a1 v5).Gauge), vi ((ix a1 v5).Length), vi ((ix a1 v5).Count)]) (cy (I0 23 (.load true 3 (.t 22)))) (ok_load_fm (v := .agg [vi ((ix a1 v5).Gauge), vi ((ix a1 v5).Length), vi ((ix a1 v5).Count)]) rfl c3 rfl) rfl ?_
    refine jq 2 [(18, eS 3 eWirePiece a1), (19, vi (a1.length : Int)), (20, vi v5), (8, .ptr 0 0 0)] [some (.row 3 [.agg [vi ((ix a1 v5).Gauge), vi ((ix a1 v5).Length), vi ((ix a1 v5).Count)]])] ?_
    refine sj ?_
    refine rn 2 [(18, eS 3 eWirePiece a1), (19, vi (a1.length : Int)), (20, vi v5), (8, .ptr 0 0 0), (25, vi ((ix a1 v5).Gauge))] [some (.row 3 [.agg [vi ((ix a1 v5).Gauge), vi ((ix a1 v5).Length), vi ((ix a1 v5).Count)]])] ?_
    obtain ⟨y6, hy6, h⟩ := bind_some h
    refine RegJ.op (Op1.call (y' := vb ((decide (100 ≤ ((ix a1 v5).Gauge))) && (decide (((ix a1 v5).Gauge) ≤ 3000)))) (obx := []) (oby := []) (ob2 := [some (.row 3 [.agg [vi ((ix a1 v5).Gauge), vi ((ix a1 v5).Length), vi ((ix a1 v5).Count)]])]) _ _ (cy (I0 26 (.call 91 [(.t 25), (.c (.p (.int .i64 100))), (.c (.p (.int .i64 3000)))]))) rfl (restore_within_ok n ((ix a1 v5).Gauge) 100 3000 y6 hy6) [] (by kernel_rfl) (.cons rfl (.cons rfl (.cons rfl (.cons rfl .nil)))) (by kernel_rfl) (by kernel_rfl) ObsRen.nil (by kernel_rfl) ObsRen.nil (by kernel_rfl)) ?_
    refine rn 2 [(18, eS 3 eWirePiece a1), (19, vi (a1.length : Int)), (20, vi v5), (8, .ptr 0 0 0), (28, vb (!((decide (100 ≤ ((ix a1 v5).Gauge))) && (decide (((ix a1 v5).Gauge) ≤ 3000)))))] [some (.row 3 [.agg [vi ((ix a1 v5).Gauge), vi ((ix a1 v5).Length), vi ((ix a1 v5).Count)]])] ?_
    refine RegJ.op (Op1.valk (v := .ptr 0 0 1) _ _ (cy (IG 29 (.faddr 1 (.t 8)) 28 false)) rfl (by kernel_rfl) (fun hg => (.cons rfl .nil))) ?_
    refine RegJ.op (Op1.valk (v := vi ((ix a1 v5).Length)) _ _ (cy (IG 30 (.load false 1 (.t 29)) 28 false)) rfl (by kernel_rfl) (fun hg => (.cons hg .nil))) ?_
    obtain ⟨y7, hy7, h⟩ := bind_some h
    refine RegJ.op (Op1.callg (g := !(!((decide (100 ≤ ((ix a1 v5).Gauge))) && (decide (((ix a1 v5).Gauge) ≤ 3000))))) (y' := vb ((decide (1 ≤ ((ix a1 v5).Length))) && (decide (((ix a1 v5).Length) ≤ 300000)))) (obx := []) _ _ (cy (IG 31 (.call 91 [(.t 30), (.c (.p (.int .i64 1))), (.c (.p (.int .i64 300000)))]) 28 false)) rfl (fun hg => restore_within_ok n ((ix a1 v5).Length) 1 300000 y7 (gcall_some hy7 hg)) [] (fun hg => by kernel_rfl) (fun hg => (.cons rfl (.cons hg (.cons rfl (.cons rfl .nil))))) (by kernel_rfl) (by kernel_rfl) ObsRen.nil (by kernel_rfl) (by kernel_rfl)) ?_
    refine RegJ.op (Op1.valk (v := vb (!((decide (1 ≤ ((ix a1 v5).Length))) && (decide (((ix a1 v5).Length) ≤ 300000))))) _ _ (cy (IG 32 (.un .not (.t 31)) 28 false)) rfl (by kernel_rfl) (fun hg => (.cons hg .nil))) ?_
    refine RegJ.op (Op1.or (cy (I0 33 (.pick (.t 28) (.c (.p (.bool true))) (.t 32)))) rfl rfl (by first | exact hokO1 | exact hokO0 | simp)) ?_
    refine rn 1 [(18, eS 3 eWirePiece a1), (19, vi (a1.length : Int)), (20, vi v5), (8, .ptr 0 0 0), (29, .cond (!(!((decide (100 ≤ ((ix a1 v5).Gauge))) && (decide (((ix a1 v5).Gauge) ≤ 3000))))) (.ptr 0 0 1)), (30, .cond (!(!((decide (100 ≤ ((ix a1 v5).Gauge))) && (decide (((ix a1 v5).Gauge) ≤ 3000))))) (vi ((ix a1 v5).Length))), (31, .cond (!(!((decide (100 ≤ ((ix a1 v5).Gauge))) && (decide (((ix a1 v5).Gauge) ≤ 3000))))) (vb ((decide (1 ≤ ((ix a1 v5).Length))) && (decide (((ix a1 v5).Length) ≤ 300000))))), (32, .cond (!(!((decide (100 ≤ ((ix a1 v5).Gauge))) && (decide (((ix a1 v5).Gauge) ≤ 3000))))) (vb (!((decide (1 ≤ ((ix a1 v5).Length))) && (decide (((ix a1 v5).Length) ≤ 300000)))))), (34, vb ((!((decide (100 ≤ ((ix a1 v5).Gauge))) && (decide (((ix a1 v5).Gauge) ≤ 3000)))) || (!((decide (1 ≤ ((ix a1 v5).Length))) && (decide (((ix a1 v5).Length) ≤ 300000))))))] [some (.row 3 [.agg [vi ((ix a1 v5).Gauge), vi ((ix a1 v5).Length), vi ((ix a1 v5).Count)]])] ?_
    refine RegJ.op (Op1.valk (v := .ptr 0 0 2) _ _ (cy (IG 35 (.faddr 2 (.t 8)) 34 false)) rfl (by kernel_rfl) (fun hg => (.cons rfl .nil))) ?_
    refine RegJ.op (Op1.valk (v := vi ((ix a1 v5).Count)) _ _ (cy (IG 36 (.load false 1 (.t 35)) 34 false)) rfl (by kernel_rfl) (fun hg => (.cons hg .nil))) ?_
    obtain ⟨y8, hy8, h⟩ := bind_some h
    refine RegJ.op (Op1.callg (g := !((!((decide (100 ≤ ((ix a1 v5).Gauge))) && (decide (((ix a1 v5).Gauge) ≤ 3000)))) || (!((decide (1 ≤ ((ix a1 v5).Length))) && (decide (((ix a1 v5).Length) ≤ 300000)))))) (y' := vb ((decide (1 ≤ ((ix a1 v5).Count))) && (decide (((ix a1 v5).Count) ≤ 100)))) (obx := []) _ _ (cy (IG 37 (.call 91 [(.t 36), (.c (.p (.int .i64 1))), (.c (.p (.int .i64 100)))]) 34 false)) rfl (fun hg => restore_within_ok n ((ix a1 v5).Count) 1 100 y8 (gcall_some hy8 hg)) [] (fun hg => by kernel_rfl) (fun hg => (.cons rfl (.cons hg (.cons rfl (.cons rfl .nil))))) (by kernel_rfl) (by kernel_rfl) ObsRen.nil (by kernel_rfl) (by kernel_rfl)) ?_
    refine RegJ.op (Op1.valk (v := vb (!((decide (1 ≤ ((ix a1 v5).Count))) && (decide (((ix a1 v5).Count) ≤ 100))))) _ _ (cy (IG 38 (.un .not (.t 37)) 34 false)) rfl (by kernel_rfl) (fun hg => (.cons hg .nil))) ?_
    refine RegJ.op (Op1.or (cy (I0 39 (.pick (.t 34) (.c (.p (.bool true))) (.t 38)))) rfl rfl (by first | exact hokO1 | exact hokO0 | simp)) ?_
    refine jp [(18, eS 3 eWirePiece a1), (19, vi (a1.length : Int)), (20, vi v5), (39, vb (((!((decide (100 ≤ ((ix a1 v5).Gauge))) && (decide (((ix a1 v5).Gauge) ≤ 3000)))) || (!((decide (1 ≤ ((ix a1 v5).Length))) && (decide (((ix a1 v5).Length) ≤ 300000))))) || (!((decide (1 ≤ ((ix a1 v5).Count))) && (decide (((ix a1 v5).Count) ≤ 100))))))] ?_
    refine TriE.cond (b := ((!((decide (100 ≤ ((ix a1 v5).Gauge))) && (decide (((ix a1 v5).Gauge) ≤ 3000)))) || (!((decide (1 ≤ ((ix a1 v5).Length))) && (decide (((ix a1 v5).Length) ≤ 300000))))) || (!((decide (1 ≤ ((ix a1 v5).Count))) && (decide (((ix a1 v5).Count) ≤ 100))))) rfl (fun c4 => ?_) (fun c4 => ?_)
    · have h := cond_t h c4
      refine sr [(4, vi 2)] [some (.row 3 [.agg [vi ((ix a1 v5).Gauge), vi ((ix a1 v5).Length), vi ((ix a1 v5).Count)]])] ?_
      refine TriE.ret ?_
      have h := Option.some.inj h
      subst h
      exact DoneS.ret (S' := ⟨[(4, vi 2)], []⟩) (sc [] (by decide) (by kernel_rfl) ObRen.nil rfl rfl) rfl rfl
    have h := cond_f h c4
    refine TriE.skip ?_
    refine TriE.regJ ?_
    obtain ⟨c5, h⟩ := chk_some h
    refine jv (vi ((v5 + 1 : Nat) : Int)) (cy (I0 40 (.bin .add false (.t 20) (.c (.p (.int .i64 1)))))) (r_addn (i := v5) (j := 1) rfl rfl c5) rfl ?_
    refine jq 1 [(18, eS 3 eWirePiece a1), (19, vi (a1.length : Int)), (20, vi ((v5 + 1 : Nat) : Int))] [some (.row 3 [.agg [vi ((ix a1 v5).Gauge), vi ((ix a1 v5).Length), vi ((ix a1 v5).Count)]])] ?_
    exact Vs.intro (sc [] (by decide) (by kernel_rfl) ObRen.nil rfl rfl) ⟨(v5 + 1), rfl, h⟩
  have h := cond_f h c3
  refine TriE.exit ?_
  exact Vs.intro sy ⟨(), rfl, h⟩
theorem slices_Clone_Coil_ok (n : Nat) (a0 : List Coil) (r : (List Coil)) (h : slices_Clone_Coil n a0 = some r) : FnL Tryz.prog 99 [eS 3 eCoil a0] [] (.own 0 0 r.length) [some (.row 3 (List.map eCoil r))] := by
  dsimp only [slices_Clone_Coil] at h
  refine FnL.ofS (ts := [2]) Tryz.call99 Tryz.func99 rfl rfl (Nat.le_of_ble_eq_true rfl) (Nat.le_of_ble_eq_true rfl) (fun j h => absurd h (Nat.not_lt_zero j)) ?_
  refine sr [(0, eS 3 eCoil a0)] [] ?_
  refine TriE.seq ?_
  refine sj ?_
  refine rn 1 [(0, eS 3 eCoil a0), (3, eS 3 eCoil a0)] [] ?_
  refine RegJ.nileq (v := eS 3 eCoil a0) (a0.isEmpty) (cy (I0 4 (.bin .eql false (.t 3) (.c .emp)))) (by kernel_rfl) (.cons rfl (.cons rfl .nil)) rfl nil_sl (fun b1 hb1 => ?_)
  have h := nilK_some h b1 hb1
  refine jp [(0, eS 3 eCoil a0), (4, vb b1)] ?_
  refine TriE.cond (b := b1) rfl (fun c1 => ?_) (fun c1 => ?_)
  · have h := cond_t h c1
    refine sr [(2, .emp)] [] ?_
    refine TriE.ret ?_
    have h := Option.some.inj h
    subst h
    exact DoneS.ret (S' := ⟨[(2, .own 0 0 (([] : List Coil).length))], [some (.row 3 (List.map eCoil ([] : List Coil)))]⟩) (Sees.trans (Sees.co (fr' := [(2, .own 0 0 0)]) (ob' := []) (.cons .own .nil) ObCo.nil 3) sy) rfl rfl
  have h := cond_f h c1
  refine TriE.skip ?_
  refine sj ?_
  refine rn 2 [(5, .emp), (6, eS 3 eCoil a0)] [] ?_
  obtain ⟨c2, h⟩ := chk_some h
  refine je (.own 0 0 a0.length) [some (.row 3 (List.map eCoil a0))] (cy (I0 7 (.app 3 32 (.t 5) (.t 6)))) (ok_app_emp (e := eCoil) (l := a0) (u := eS 3 eCoil a0) rfl rfl els_sl c2) rfl rfl rfl ?_
  refine jq 1 [(2, .own 0 0 a0.length)] [some (.row 3 (List.map eCoil a0))] ?_
  refine TriE.ret ?_
  have h := Option.some.inj h
  subst h
  exact DoneS.ret (S' := ⟨[(2, .own 0 0 a0.length)], [some (.row 3 (List.map eCoil a0))]⟩) Sees.refl rfl rfl
theorem restore_CutFirst_f1_ok (n : Nat) (a0 : Coil) (a1 : Int) (a2 : Int) (a3 : Int) (r : Unit) (h : restore_CutFirst_f1 n a0 a1 a2 a3 = some r) : FnL Tryz.prog 101 [.agg [vt a0.Name, vi a0.Gauge, vi a0.Length], .ptr 0 0 0] [some (.row 3 [.agg [vi a1, vi a2, vi a3]])] (vb ((a0.Gauge == a1) && (decide (a2 ≤ a0.Length)))) [some (.row 3 [.agg [vi a1, vi a2, vi a3]])] := by
  dsimp only [restore_CutFirst_f1] at h
  refine FnL.ofS (ts := [3]) Tryz.call101 Tryz.func101 rfl rfl (Nat.le_of_ble_eq_true rfl) (Nat.le_of_ble_eq_true rfl) (hall_of (.cons rfl .nil)) ?_
  refine sr [(1, .ptr 0 0 0), (2, .ptr 1 0 0)] [some (.row 3 [.agg [vi a1, vi a2, vi a3]]), some (.row 3 [.agg [vt a0.Name, vi a0.Gauge, vi a0.Length]])] ?_
  refine sj ?_
  refine rn 6 [(1, .ptr 0 0 0), (2, .ptr 1 0 0), (9, vb (a0.Gauge == a1))] [some (.row 3 [.agg [vi a1, vi a2, vi a3]]), some (.row 3 [.agg [vt a0.Name, vi a0.Gauge, vi a0.Length]])] ?_
  refine RegJ.op (Op1.valk (v := .ptr 1 0 2) _ _ (cy (IG 10 (.faddr 2 (.t 2)) 9 true)) rfl (by kernel_rfl) (fun hg => (.cons rfl .nil))) ?_
  refine RegJ.op (Op1.valk (v := vi a0.Length) _ _ (cy (IG 11 (.load false 1 (.t 10)) 9 true)) rfl (by kernel_rfl) (fun hg => (.cons hg .nil))) ?_
  refine RegJ.op (Op1.valk (v := .ptr 0 0 1) _ _ (cy (IG 12 (.faddr 1 (.t 1)) 9 true)) rfl (by kernel_rfl) (fun hg => (.cons rfl .nil))) ?_
  refine RegJ.op (Op1.valk (v := vi a2) _ _ (cy (IG 13 (.load false 1 (.t 12)) 9 true)) rfl (by kernel_rfl) (fun hg => (.cons hg .nil))) ?_
  refine RegJ.op (Op1.valk (v := vb (decide (a2 ≤ a0.Length))) _ _ (cy (IG 14 (.bin .geq false (.t 11) (.t 13)) 9 true)) rfl (by kernel_rfl) (fun hg => (.cons hg (.cons hg .nil)))) ?_
  refine RegJ.op (Op1.and (cy (I0 15 (.pick (.t 9) (.t 14) (.c (.p (.bool false)))))) rfl rfl (by first | exact hokA1 | exact hokA0 | simp)) ?_
  refine jq 1 [(3, vb ((a0.Gauge == a1) && (decide (a2 ≤ a0.Length))))] [some (.row 3 [.agg [vi a1, vi a2, vi a3]]), some (.row 3 [.agg [vt a0.Name, vi a0.Gauge, vi a0.Length]])] ?_
  refine TriE.ret ?_
  have h := Option.some.inj h
  subst h
  exact DoneS.ret (S' := ⟨[(3, vb ((a0.Gauge == a1) && (decide (a2 ≤ a0.Length))))], [some (.row 3 [.agg [vi a1, vi a2, vi a3]])]⟩) (sc [0] (by decide) (by kernel_rfl) (.cons rfl .nil) rfl rfl) rfl rfl
theorem slices_IndexFunc_Coil_ok (n : Nat) (a0 : List Coil) (a1 : Int) (a2 : Int) (a3 : Int) (r : Int) (h : slices_IndexFunc_Coil n a0 a1 a2 a3 = some r) : FnL Tryz.prog 100 [.own 0 0 a0.length, .fn (.func 101) [] [.ptr 1 0 0]] [some (.row 3 (List.map eCoil a0)), some (.row 3 [.agg [vi a1, vi a2, vi a3]])] (vi r) [some (.row 3 (List.map eCoil a0)), some (.row 3 [.agg [vi a1, vi a2, vi a3]])] := by
  dsimp only [slices_IndexFunc_Coil] at h
  refine FnL.ofS (ts := [4]) Tryz.call100 Tryz.func100 rfl rfl (Nat.le_of_ble_eq_true rfl) (Nat.le_of_ble_eq_true rfl) (hall_of (.cons rfl (.cons rfl .nil))) ?_
  refine sr [(0, .own 0 0 a0.length), (1, .fn (.func 101) [] [.ptr 1 0 0])] [some (.row 3 (List.map eCoil a0)), some (.row 3 [.agg [vi a1, vi a2, vi a3]])] ?_
  refine TriE.seqK h (fun (_ : Unit) => St.mk [] [some (.row 3 (List.map eCoil a0)), some (.row 3 [.agg [vi a1, vi a2, vi a3]])]) ?_ ?_
  · rintro ⟨⟩ h
    refine sr [(4, vi (-1))] [some (.row 3 (List.map eCoil a0)), some (.row 3 [.agg [vi a1, vi a2, vi a3]])] ?_
    refine TriE.ret ?_
    have h := Option.some.inj h
    subst h
    exact DoneS.ret (S' := ⟨[(4, vi (-1))], [some (.row 3 (List.map eCoil a0)), some (.row 3 [.agg [vi a1, vi a2, vi a3]])]⟩) Sees.refl rfl rfl
  intro k1 h
  refine sr [(0, .own 0 0 a0.length), (1, .fn (.func 101) [] [.ptr 1 0 0]), (7, vi (a0.length : Int)), (8, vi 0)] [some (.row 3 (List.map eCoil a0)), some (.row 3 [.agg [vi a1, vi a2, vi a3]])] ?_
  refine TriE.block ?_
  refine TriE.sees (S' := ⟨[(0, .own 0 0 a0.length), (1, .fn (.func 101) [] [.ptr 1 0 0]), (7, vi (a0.length : Int)), (8, vi 0)], [some (.row 3 (List.map eCoil a0)), some (.row 3 [.agg [vi a1, vi a2, vi a3]])]⟩) sy ?_
  refine TriE.loopN h (fun (v2 : Nat) => St.mk [(0, .own 0 0 a0.length), (1, .fn (.func 101) [] [.ptr 1 0 0]), (7, vi (a0.length : Int)), (8, vi v2)] [some (.row 3 (List.map eCoil a0)), some (.row 3 [.agg [vi a1, vi a2, vi a3]])]) rfl ?_
  clear h
  rintro back v2 h
  dsimp only [slices_IndexFunc_Coil_L1] at h
  refine sj ?_
  refine jv (vb (decide (v2 < a0.length))) (cy (I0 9 (.bin .lss false (.t 8) (.t 7)))) (n_lss (i := v2) (j := a0.length) rfl rfl) rfl ?_
  refine jp [(0, .own 0 0 a0.length), (1, .fn (.func 101) [] [.ptr 1 0 0]), (7, vi (a0.length : Int)), (8, vi v2), (9, vb (decide (v2 < a0.length)))] ?_
  refine TriE.seq ?_
  refine TriE.cond (b := decide (v2 < a0.length)) rfl (fun c1 => ?_) (fun c1 => ?_)
  · have h := cond_t h c1
    refine TriE.skip ?_
    refine TriE.seq ?_
    refine TriE.block ?_
    refine sr [(0, .own 0 0 a0.length), (1, .fn (.func 101) [] [.ptr 1 0 0]), (7, vi (a0.length : Int)), (8, vi v2), (5, vi v2)] [some (.row 3 (List.map eCoil a0)), some (.row 3 [.agg [vi a1, vi a2, vi a3]])] ?_
    refine sj ?_
    refine rn 3 [(0, .own 0 0 a0.length), (1, .fn (.func 101) [] [.ptr 1 0 0]), (7, vi (a0.length : Int)), (8, vi v2), (5, vi v2), (11, .fn (.func 101) [] [.ptr 1 0 0]), (12, .own 0 0 a0.length), (13, vi v2)] [some (.row 3 (List.map eCoil a0)), some (.row 3 [.agg [vi a1, vi a2, vi a3]])] ?_
    refine jv (.ptr 0 v2 0) (cy (I0 14 (.iaddr 3 (.t 12) (.t 13)))) (ok_iaddr_o0 (j := v2) rfl rfl rfl rfl c1) rfl ?_
    refine jv (.agg [vt ((ix a0 v2).Name), vi ((ix a0 v2).Gauge), vi ((ix a0 v2).Length)]) (cy (I0 15 (.load true 3 (.t 14)))) (ok_load_pm (l := a0) (e := eCoil) (v := .agg [vt ((ix a0 v2).Name), vi ((ix a0 v2).Gauge), vi ((ix a0 v2).Length)]) rfl rfl c1 rfl) rfl ?_
    obtain ⟨y3, hy3, h⟩ := bind_some h
    refine RegJ.op (Op1.dyn (y' := vb (((ix a0 v2).Gauge == a1) && (decide (a2 ≤ (ix a0 v2).Length)))) (obx := [some (.row 3 [.agg [vi a1, vi a2, vi a3]])]) (oby := [some (.row 3 [.agg [vi a1, vi a2, vi a3]])]) (ob2 := [some (.row 3 (List.map eCoil a0)), some (.row 3 [.agg [vi a1, vi a2, vi a3]])]) _ _ _ (cy (I0 16 (.dyn (.t 11) [(.t 15)]))) rfl rfl (restore_CutFirst_f1_ok n (ix a0 v2) a1 a2 a3 y3 hy3) [1] (by kernel_rfl) (.cons rfl (.cons rfl .nil)) (by kernel_rfl) (by kernel_rfl) (.cons rfl .nil) (by kernel_rfl) (.cons rfl .nil) (by kernel_rfl)) ?_
    refine jp [(0, .own 0 0 a0.length), (1, .fn (.func 101) [] [.ptr 1 0 0]), (7, vi (a0.length : Int)), (8, vi v2), (5, vi v2), (16, vb (((ix a0 v2).Gauge == a1) && (decide (a2 ≤ (ix a0 v2).Length))))] ?_
    refine TriE.cond (b := ((ix a0 v2).Gauge == a1) && (decide (a2 ≤ (ix a0 v2).Length))) rfl (fun c2 => ?_) (fun c2 => ?_)
    · have h := cond_t h c2
      refine sr [(4, vi v2)] [some (.row 3 (List.map eCoil a0)), some (.row 3 [.agg [vi a1, vi a2, vi a3]])] ?_
      refine TriE.ret ?_
      have h := Option.some.inj h
      subst h
      exact DoneS.ret (S' := ⟨[(4, vi v2)], [some (.row 3 (List.map eCoil a0)), some (.row 3 [.agg [vi a1, vi a2, vi a3]])]⟩) Sees.refl rfl rfl
    have h := cond_f h c2
    refine TriE.skip ?_
    refine TriE.regJ ?_
    obtain ⟨c3, h⟩ := chk_some h
    refine jv (vi ((v2 + 1 : Nat) : Int)) (cy (I0 18 (.bin .add false (.t 8) (.c (.p (.int .i64 1)))))) (r_addn (i := v2) (j := 1) rfl rfl c3) rfl ?_
    refine jq 1 [(0, .own 0 0 a0.length), (1, .fn (.func 101) [] [.ptr 1 0 0]), (7, vi (a0.length : Int)), (8, vi ((v2 + 1 : Nat) : Int))] [some (.row 3 (List.map eCoil a0)), some (.row 3 [.agg [vi a1, vi a2, vi a3]])] ?_
    exact Vs.intro sy ⟨(v2 + 1), rfl, h⟩
  have h := cond_f h c1
  refine TriE.exit ?_
  exact Vs.intro sy ⟨(), rfl, h⟩
theorem restore_CutFirst_ok (n : Nat) (a0 : List Coil) (a1 : List WirePiece) (r : Int × (List (List Int))) (h : restore_CutFirst n a0 a1 = some r) : FnL Tryz.prog 29 [eS 3 eCoil a0, eS 3 eWirePiece a1] [] (.tup [eS 1 (eS 1 vi) r.2, vi r.1]) [] := by
  dsimp only [restore_CutFirst] at h
  refine FnL.ofS (ts := [4, 5]) Tryz.call29 Tryz.func29 rfl rfl (Nat.le_of_ble_eq_true rfl) (Nat.le_of_ble_eq_true rfl) (fun j h => absurd h (Nat.not_lt_zero j)) ?_
  refine sr [(0, eS 3 eCoil a0), (1, eS 3 eWirePiece a1)] [] ?_
  refine TriE.seq ?_
  refine sj ?_
  refine rn 2 [(0, eS 3 eCoil a0), (1, eS 3 eWirePiece a1), (13, eS 3 eCoil a0), (14, eS 3 eWirePiece a1)] [] ?_
  obtain ⟨y1, hy1, h⟩ := bind_some h
  refine RegJ.op (Op1.call (y' := vi y1) (obx := []) (oby := []) (ob2 := []) _ _ (cy (I0 15 (.call 98 [(.t 13), (.t 14)]))) rfl (restore_checkWire_ok n a0 a1 y1 hy1) [] (by kernel_rfl) (.cons rfl (.cons rfl (.cons rfl .nil))) (by kernel_rfl) (by kernel_rfl) ObsRen.nil (by kernel_rfl) ObsRen.nil (by kernel_rfl)) ?_
  refine jq 1 [(0, eS 3 eCoil a0), (1, eS 3 eWirePiece a1), (6, vi y1)] [] ?_
  refine sr [(0, eS 3 eCoil a0), (1, eS 3 eWirePiece a1), (6, vi y1), (17, vb (y1 != (0 : Int)))] [] ?_
  refine TriE.cond (b := (y1 != (0 : Int))) rfl (fun c1 => ?_) (fun c1 => ?_)
  · have h := cond_t h c1
    refine sr [(4, .emp), (5, vi y1)] [] ?_
    refine TriE.ret ?_
    have h := Option.some.inj h
    subst h
    exact DoneS.ret (S' := ⟨[(4, eS 1 (eS 1 vi) ([] : List (List Int))), (5, vi y1)], []⟩) (Sees.trans (Sees.vco (fr' := [(4, eS 1 (eS 1 vi) ([] : List (List Int))), (5, vi y1)]) (.cons .sl (.cons .same .nil))) sy) rfl rfl
  have h := cond_f h c1
  refine TriE.skip ?_
  refine sj ?_
  refine rn 1 [(1, eS 3 eWirePiece a1), (19, eS 3 eCoil a0)] [] ?_
  obtain ⟨y2, hy2, h⟩ := bind_some h
  refine RegJ.op (Op1.call (y' := .own 0 0 y2.length) (obx := []) (oby := [some (.row 3 (List.map eCoil y2))]) (ob2 := [some (.row 3 (List.map eCoil y2))]) _ _ (cy (I0 20 (.call 99 [(.t 19)]))) rfl (slices_Clone_Coil_ok n a0 y2 hy2) [] (by kernel_rfl) (.cons rfl (.cons rfl .nil)) (by kernel_rfl) (by kernel_rfl) ObsRen.nil (by kernel_rfl) (.same (row_ren eCoil_frz _ _ _) .nil) (by kernel_rfl)) ?_
  refine jq 1 [(1, eS 3 eWirePiece a1), (7, .own 0 0 y2.length)] [some (.row 3 (List.map eCoil y2))] ?_
  refine sr [(1, eS 3 eWirePiece a1), (7, .own 0 0 y2.length), (8, .emp)] [some (.row 3 (List.map eCoil y2))] ?_
  refine TriE.seqK h (fun (v26 : (List (List Int))) => St.mk [(8, .own 0 0 v26.length)] [some (.row 1 (List.map (eS 1 vi) v26))]) ?_ ?_
  · rintro v26 h
    refine sr [(4, .own 0 0 v26.length), (5, vi 0)] [some (.row 1 (List.map (eS 1 vi) v26))] ?_
    refine TriE.ret ?_
    have h := Option.some.inj h
    subst h
    exact DoneS.ret (S' := ⟨[(4, eS 1 (eS 1 vi) v26), (5, vi 0)], []⟩) (Sees.trans (Sees.freeze 0 (fr' := [(4, eS 1 (eS 1 vi) v26), (5, vi 0)]) (ob' := [none]) rfl (frz_row (eS_frzE 1 vi) _) (.cons (frz_full rfl) (.cons (.refl _) .nil)) rfl) (sc [] (by decide) (by kernel_rfl) ObRen.nil rfl rfl)) rfl rfl
  intro k2 h
  refine sj ?_
  refine rn 1 [(7, .own 0 0 y2.length), (8, .emp), (21, eS 3 eWirePiece a1)] [some (.row 3 (List.map eCoil y2))] ?_
  refine jv (vi (a1.length : Int)) (cy (I0 22 (.len 0 (.t 21)))) (ok_len_m rfl) rfl ?_
  refine jq 1 [(7, .own 0 0 y2.length), (8, .emp), (21, eS 3 eWirePiece a1), (22, vi (a1.length : Int)), (23, vi 0)] [some (.row 3 (List.map eCoil y2))] ?_
  refine TriE.block ?_
  refine TriE.sees (S' := ⟨[(7, .own 0 0 y2.length), (8, .own 1 0 ([] : List (List Int)).length), (21, eS 3 eWirePiece a1), (22, vi (a1.length : Int)), (23, vi 0)], [some (.row 3 (List.map eCoil y2)), some (.row 1 (List.map (eS 1 vi) ([] : List (List Int))))]⟩) (Sees.trans (Sees.co (fr' := [(7, .own 0 0 y2.length), (8, .own 1 0 0), (21, eS 3 eWirePiece a1), (22, vi (a1.length : Int)), (23, vi 0)]) (ob' := [some (.row 3 (List.map eCoil y2))]) (.cons .same (.cons .own (.cons .same (.cons .same (.cons .same .nil))))) (.same .nil) 1) sy) ?_
  refine TriE.loopN h (fun (t : (List (List Int)) × Nat × (List Coil)) => match t with | (v13, v14, v15) => St.mk [(7, .own 0 0 v15.length), (8, .own 1 0 v13.length), (21, eS 3 eWirePiece a1), (22, vi (a1.length : Int)), (23, vi v14)] [some (.row 3 (List.map eCoil v15)), some (.row 1 (List.map (eS 1 vi) v13))]) rfl ?_
  clear h
  rintro back ⟨v13, v14, v15⟩ h
  dsimp only [restore_CutFirst_L2] at h
  refine sj ?_
  refine jv (vb (decide (v14 < a1.length))) (cy (I0 24 (.bin .lss false (.t 23) (.t 22)))) (n_lss (i := v14) (j := a1.length) rfl rfl) rfl ?_
  refine jp [(7, .own 0 0 v15.length), (8, .own 1 0 v13.length), (21, eS 3 eWirePiece a1), (22, vi (a1.length : Int)), (23, vi v14), (24, vb (decide (v14 < a1.length)))] ?_
  refine TriE.seq ?_
  refine TriE.cond (b := decide (v14 < a1.length)) rfl (fun c2 => ?_) (fun c2 => ?_)
  · have h := cond_t h c2
    refine TriE.skip ?_
    refine TriE.seq ?_
    refine TriE.block ?_
    refine sj ?_
    refine jv (.fptr 3 (List.map eWirePiece a1) v14 0) (cy (I0 25 (.iaddr 3 (.t 21) (.t 23)))) (ok_iaddr_m (j := v14) rfl rfl rfl c2) rfl ?_
    refine jv (.agg [vi ((ix a1 v14).Gauge), vi ((ix a1 v14).Length), vi ((ix a1 v14).Count)]) (cy (I0 26 (.load true 3 (.t 25)))) (ok_load_fm (v := .agg [vi ((ix a1 v14).Gauge), vi ((ix a1 v14).Length), vi ((ix a1 v14).Count)]) rfl c2 rfl) rfl ?_
    refine jq 2 [(7, .own 0 0 v15.length), (8, .own 1 0 v13.length), (21, eS 3 eWirePiece a1), (22, vi (a1.length : Int)), (23, vi v14), (10, .ptr 2 0 0)] [some (.row 3 (List.map eCoil v15)), some (.row 1 (List.map (eS 1 vi) v13)), some (.row 3 [.agg [vi ((ix a1 v14).Gauge), vi ((ix a1 v14).Length), vi ((ix a1 v14).Count)]])] ?_
    refine sr [(7, .own 0 0 v15.length), (8, .own 1 0 v13.length), (21, eS 3 eWirePiece a1), (22, vi (a1.length : Int)), (23, vi v14), (10, .ptr 2 0 0), (11, .emp)] [some (.row 3 (List.map eCoil v15)), some (.row 1 (List.map (eS 1 vi) v13)), some (.row 3 [.agg [vi ((ix a1 v14).Gauge), vi ((ix a1 v14).Length), vi ((ix a1 v14).Count)]])] ?_
    refine TriE.seqK h (fun (t : (List Int) × (List Coil)) => match t with | (v24, v25) => St.mk [(7, .own 0 0 v25.length), (8, .own 1 0 v13.length), (21, eS 3 eWirePiece a1), (22, vi (a1.length : Int)), (23, vi v14), (11, .own 2 0 v24.length)] [some (.row 3 (List.map eCoil v25)), some (.row 1 (List.map (eS 1 vi) v13)), some (.row 1 (List.map vi v24))]) ?_ ?_
    · rintro ⟨v24, v25⟩ h
      refine TriE.sees (Sees.freeze 2 (fr' := [(7, .own 0 0 v25.length), (8, .own 1 0 v13.length), (21, eS 3 eWirePiece a1), (22, vi (a1.length : Int)), (23, vi v14), (11, eS 1 vi v24)]) (ob' := [some (.row 3 (List.map eCoil v25)), some (.row 1 (List.map (eS 1 vi) v13)), none]) rfl (frz_row vi_frzE _) (.cons (.refl _) (.cons (.refl _) (.cons (.refl _) (.cons (.refl _) (.cons (.refl _) (.cons (frz_full rfl) .nil)))))) rfl) ?_
      refine TriE.regJ ?_
      refine rn 3 [(7, .own 0 0 v25.length), (21, eS 3 eWirePiece a1), (22, vi (a1.length : Int)), (23, vi v14), (51, .own 1 0 v13.length), (53, .own 3 0 1)] [some (.row 3 (List.map eCoil v25)), some (.row 1 (List.map (eS 1 vi) v13)), none, some (.row 1 [eS 1 vi v24])] ?_
      obtain ⟨c10, h⟩ := chk_some h
      refine je (.own 4 0 ((v13 ++ ([v24] : List (List Int))).length)) [some (.row 3 (List.map eCoil v25)), none, none, some (.row 1 [eS 1 vi v24]), some (.row 1 (List.map (eS 1 vi) (v13 ++ ([v24] : List (List Int)))))] (cy (I0 54 (.app 1 24 (.t 51) (.t 53)))) (ok_app_own (l := v13) (l2 := ([v24] : List (List Int))) (e := (eS 1 vi)) (u := .own 3 0 1) rfl rfl rfl rfl rfl c10) rfl rfl rfl ?_
      refine jq 1 [(7, .own 0 0 v25.length), (21, eS 3 eWirePiece a1), (22, vi (a1.length : Int)), (23, vi v14), (8, .own 4 0 ((v13 ++ ([v24] : List (List Int))).length))] [some (.row 3 (List.map eCoil v25)), none, none, some (.row 1 [eS 1 vi v24]), some (.row 1 (List.map (eS 1 vi) (v13 ++ ([v24] : List (List Int)))))] ?_
      refine TriE.regJ ?_
      obtain ⟨c11, h⟩ := chk_some h
      refine jv (vi ((v14 + 1 : Nat) : Int)) (cy (I0 55 (.bin .add false (.t 23) (.c (.p (.int .i64 1)))))) (r_addn (i := v14) (j := 1) rfl rfl c11) rfl ?_
      refine jq 1 [(7, .own 0 0 v25.length), (21, eS 3 eWirePiece a1), (22, vi (a1.length : Int)), (8, .own 4 0 ((v13 ++ ([v24] : List (List Int))).length)), (23, vi ((v14 + 1 : Nat) : Int))] [some (.row 3 (List.map eCoil v25)), none, none, some (.row 1 [eS 1 vi v24]), some (.row 1 (List.map (eS 1 vi) (v13 ++ ([v24] : List (List Int)))))] ?_
      exact Vs.intro (sc [0, 4] (by decide) (by kernel_rfl) (obRen_row eCoil_frz rfl (obRen_row (eS_frz 1 vi) rfl .nil)) rfl rfl) ⟨((v13 ++ ([v24] : List (List Int))), v14 + 1, v25), rfl, h⟩
    intro k1 h
    refine sr [(7, .own 0 0 v15.length), (8, .own 1 0 v13.length), (21, eS 3 eWirePiece a1), (22, vi (a1.length : Int)), (23, vi v14), (10, .ptr 2 0 0), (11, .emp), (28, vi ((ix a1 v14).Count)), (29, vi 0)] [some (.row 3 (List.map eCoil v15)), some (.row 1 (List.map (eS 1 vi) v13)), some (.row 3 [.agg [vi ((ix a1 v14).Gauge), vi ((ix a1 v14).Length), vi ((ix a1 v14).Count)]])] ?_
    refine TriE.block ?_
    refine TriE.sees (S' := ⟨[(7, .own 0 0 v15.length), (8, .own 1 0 v13.length), (21, eS 3 eWirePiece a1), (22, vi (a1.length : Int)), (23, vi v14), (10, .ptr 2 0 0), (11, .own 3 0 ([] : List Int).length), (28, vi ((ix a1 v14).Count)), (29, vi 0)], [some (.row 3 (List.map eCoil v15)), some (.row 1 (List.map (eS 1 vi) v13)), some (.row 3 [.agg [vi ((ix a1 v14).Gauge), vi ((ix a1 v14).Length), vi ((ix a1 v14).Count)]]), some (.row 1 (List.map vi ([] : List Int)))]⟩) (Sees.trans (Sees.co (fr' := [(7, .own 0 0 v15.length), (8, .own 1 0 v13.length), (21, eS 3 eWirePiece a1), (22, vi (a1.length : Int)), (23, vi v14), (10, .ptr 2 0 0), (11, .own 3 0 0), (28, vi ((ix a1 v14).Count)), (29, vi 0)]) (ob' := [some (.row 3 (List.map eCoil v15)), some (.row 1 (List.map (eS 1 vi) v13)), some (.row 3 [.agg [vi ((ix a1 v14).Gauge), vi ((ix a1 v14).Length), vi ((ix a1 v14).Count)]])]) (.cons .same (.cons .same (.cons .same (.cons .same (.cons .same (.cons .same (.cons .own (.cons .same (.cons .same .nil))))))))) (.same (.same (.same .nil))) 1) sy) ?_
    refine TriE.loopN h (fun (t : (List Int) × Nat × Int × Int × Int × (List Coil)) => match t with | (v17, v18, v19, v20, v21, v22) => St.mk [(7, .own 0 0 v22.length), (8, .own 1 0 v13.length), (21, eS 3 eWirePiece a1), (22, vi (a1.length : Int)), (23, vi v14), (10, .ptr 2 0 0), (11, .own 3 0 v17.length), (28, vi ((ix a1 v14).Count)), (29, vi v18)] [some (.row 3 (List.map eCoil v22)), some (.row 1 (List.map (eS 1 vi) v13)), some (.row 3 [.agg [vi v19, vi v20, vi v21]]), some (.row 1 (List.map vi v17))]) rfl ?_
    clear h
    rintro back ⟨v17, v18, v19, v20, v21, v22⟩ h
    dsimp only [restore_CutFirst_L1] at h
    refine sr [(7, .own 0 0 v22.length), (8, .own 1 0 v13.length), (21, eS 3 eWirePiece a1), (22, vi (a1.length : Int)), (23, vi v14), (10, .ptr 2 0 0), (11, .own 3 0 v17.length), (28, vi ((ix a1 v14).Count)), (29, vi v18), (30, vb (decide ((v18 : Int) < ((ix a1 v14).Count))))] [some (.row 3 (List.map eCoil v22)), some (.row 1 (List.map (eS 1 vi) v13)), some (.row 3 [.agg [vi v19, vi v20, vi v21]]), some (.row 1 (List.map vi v17))] ?_
    refine TriE.seq ?_
    refine TriE.cond (b := decide ((v18 : Int) < ((ix a1 v14).Count))) rfl (fun c3 => ?_) (fun c3 => ?_)
    · have h := cond_t h c3
      refine TriE.skip ?_
      refine TriE.seq ?_
      refine TriE.block ?_
      refine sj ?_
      refine rn 2 [(7, .own 0 0 v22.length), (8, .own 1 0 v13.length), (21, eS 3 eWirePiece a1), (22, vi (a1.length : Int)), (23, vi v14), (10, .ptr 2 0 0), (11, .own 3 0 v17.length), (28, vi ((ix a1 v14).Count)), (29, vi v18), (31, .own 0 0 v22.length), (32, .fn (.func 101) [] [.ptr 2 0 0])] [some (.row 3 (List.map eCoil v22)), some (.row 1 (List.map (eS 1 vi) v13)), some (.row 3 [.agg [vi v19, vi v20, vi v21]]), some (.row 1 (List.map vi v17))] ?_
      obtain ⟨y23, hy23, h⟩ := bind_some h
      refine RegJ.op (Op1.call (y' := vi y23) (obx := [some (.row 3 (List.map eCoil v22)), some (.row 3 [.agg [vi v19, vi v20, vi v21]])]) (oby := [some (.row 3 (List.map eCoil v22)), some (.row 3 [.agg [vi v19, vi v20, vi v21]])]) (ob2 := [some (.row 3 (List.map eCoil v22)), some (.row 1 (List.map (eS 1 vi) v13)), some (.row 3 [.agg [vi v19, vi v20, vi v21]]), some (.row 1 (List.map vi v17))]) _ _ (cy (I0 33 (.call 100 [(.t 31), (.t 32)]))) rfl (slices_IndexFunc_Coil_ok n v22 v19 v20 v21 y23 hy23) [0, 2] (by kernel_rfl) (.cons rfl (.cons rfl (.cons rfl .nil))) (by kernel_rfl) (by kernel_rfl) (.same (row_ren eCoil_frz _ _ _) (.cons rfl .nil)) (by kernel_rfl) (.same (row_ren eCoil_frz _ _ _) (.cons rfl .nil)) (by kernel_rfl)) ?_
      refine jq 1 [(7, .own 0 0 v22.length), (8, .own 1 0 v13.length), (21, eS 3 eWirePiece a1), (22, vi (a1.length : Int)), (23, vi v14), (10, .ptr 2 0 0), (11, .own 3 0 v17.length), (28, vi ((ix a1 v14).Count)), (29, vi v18), (12, vi y23)] [some (.row 3 (List.map eCoil v22)), some (.row 1 (List.map (eS 1 vi) v13)), some (.row 3 [.agg [vi v19, vi v20, vi v21]]), some (.row 1 (List.map vi v17))] ?_
      refine TriE.seq ?_
      refine sr [(7, .own 0 0 v22.length), (8, .own 1 0 v13.length), (21, eS 3 eWirePiece a1), (22, vi (a1.length : Int)), (23, vi v14), (10, .ptr 2 0 0), (11, .own 3 0 v17.length), (28, vi ((ix a1 v14).Count)), (29, vi v18), (12, vi y23), (35, vb (decide (y23 < (0 : Int))))] [some (.row 3 (List.map eCoil v22)), some (.row 1 (List.map (eS 1 vi) v13)), some (.row 3 [.agg [vi v19, vi v20, vi v21]]), some (.row 1 (List.map vi v17))] ?_
      refine TriE.cond (b := decide (y23 < (0 : Int))) rfl (fun c4 => ?_) (fun c4 => ?_)
      · have h := cond_t h c4
        refine sr [(4, .emp), (5, vi 20)] [some (.row 3 (List.map eCoil v22)), some (.row 1 (List.map (eS 1 vi) v13)), some (.row 3 [.agg [vi v19, vi v20, vi v21]]), some (.row 1 (List.map vi v17))] ?_
        refine TriE.ret ?_
        have h := Option.some.inj h
        subst h
        exact DoneS.ret (S' := ⟨[(4, eS 1 (eS 1 vi) ([] : List (List Int))), (5, vi 20)], []⟩) (Sees.trans (Sees.vco (fr' := [(4, eS 1 (eS 1 vi) ([] : List (List Int))), (5, vi 20)]) (.cons .sl (.cons .same .nil))) (sc [] (by decide) (by kernel_rfl) ObRen.nil rfl rfl)) rfl rfl
      have h := cond_f h c4
      refine TriE.skip ?_
      refine TriE.seq ?_
      refine TriE.sees (Sees.less (fr' := [(7, .own 0 0 v22.length), (8, .own 1 0 v13.length), (21, eS 3 eWirePiece a1), (22, vi (a1.length : Int)), (23, vi v14), (10, .ptr 2 0 0), (11, .own 3 0 v17.length), (28, vi ((ix a1 v14).Count)), (29, vi v18), (12, vi y23)]) (.cons rfl (.cons rfl (.cons rfl (.cons rfl (.cons rfl (.cons rfl (.cons rfl (.cons rfl (.cons rfl (.cons rfl .nil))))))))))) ?_
      refine TriE.draw (by kernel_rfl) ?_
      refine RegD.run 2 [(37, vi y23), (36, .own 0 0 v22.length), (7, .own 0 0 v22.length), (8, .own 1 0 v13.length), (21, eS 3 eWirePiece a1), (22, vi (a1.length : Int)), (23, vi v14), (10, .ptr 2 0 0), (11, .own 3 0 v17.length), (28, vi ((ix a1 v14).Count)), (29, vi v18), (12, vi y23)] [some (.row 3 (List.map eCoil v22)), some (.row 1 (List.map (eS 1 vi) v13)), some (.row 3 [.agg [vi v19, vi v20, vi v21]]), some (.row 1 (List.map vi v17)), none, none] (by kernel_rfl) ?_
      obtain ⟨c5, h⟩ := chk_some h
      refine dv (.ptr 0 y23.toNat 0) (cy (I0 38 (.iaddr 3 (.t 36) (.t 37)))) (ok_iaddr_o0 (j := y23.toNat) rfl rfl rfl (inB_to c5) (inB_lt c5)) rfl ?_
      refine RegD.run 1 [(39, .ptr 0 y23.toNat 2), (38, .ptr 0 y23.toNat 0), (37, vi y23), (36, .own 0 0 v22.length), (7, .own 0 0 v22.length), (8, .own 1 0 v13.length), (21, eS 3 eWirePiece a1), (22, vi (a1.length : Int)), (23, vi v14), (10, .ptr 2 0 0), (11, .own 3 0 v17.length), (28, vi ((ix a1 v14).Count)), (29, vi v18), (12, vi y23)] [some (.row 3 (List.map eCoil v22)), some (.row 1 (List.map (eS 1 vi) v13)), some (.row 3 [.agg [vi v19, vi v20, vi v21]]), some (.row 1 (List.map vi v17)), none, none, none, none] (by kernel_rfl) ?_
      obtain ⟨c6, h⟩ := chk_some h
      refine dv (vi ((ix v22 y23.toNat).Length)) (cy (I0 40 (.load false 1 (.t 39)))) (ok_load_pm (l := v22) (e := eCoil) (v := vi ((ix v22 y23.toNat).Length)) rfl rfl c6 rfl) rfl ?_
      refine RegD.run 2 [(42, vi v20), (41, .ptr 2 0 1), (40, vi ((ix v22 y23.toNat).Length)), (39, .ptr 0 y23.toNat 2), (38, .ptr 0 y23.toNat 0), (37, vi y23), (36, .own 0 0 v22.length), (7, .own 0 0 v22.length), (8, .own 1 0 v13.length), (21, eS 3 eWirePiece a1), (22, vi (a1.length : Int)), (23, vi v14), (10, .ptr 2 0 0), (11, .own 3 0 v17.length), (28, vi ((ix a1 v14).Count)), (29, vi v18), (12, vi y23)] [some (.row 3 (List.map eCoil v22)), some (.row 1 (List.map (eS 1 vi) v13)), some (.row 3 [.agg [vi v19, vi v20, vi v21]]), some (.row 1 (List.map vi v17)), none, none, none, none, none, none, none] (by kernel_rfl) ?_
      obtain ⟨c7, h⟩ := chk_some h
      refine dv (vi (((ix v22 y23.toNat).Length) - v20)) (cy (I0 43 (.bin .sub false (.t 40) (.t 42)))) (r_sub rfl rfl c7) rfl ?_
      refine dv (.ptr 0 y23.toNat 0) (cy (I0 44 (.iaddr 3 (.t 36) (.t 37)))) (ok_iaddr_o0 (j := y23.toNat) rfl rfl rfl (inB_to c5) (inB_lt c5)) rfl ?_
      refine RegD.run 1 [(45, .ptr 0 y23.toNat 2), (44, .ptr 0 y23.toNat 0), (43, vi (((ix v22 y23.toNat).Length) - v20)), (42, vi v20), (41, .ptr 2 0 1), (40, vi ((ix v22 y23.toNat).Length)), (39, .ptr 0 y23.toNat 2), (38, .ptr 0 y23.toNat 0), (37, vi y23), (36, .own 0 0 v22.length), (7, .own 0 0 v22.length), (8, .own 1 0 v13.length), (21, eS 3 eWirePiece a1), (22, vi (a1.length : Int)), (23, vi v14), (10, .ptr 2 0 0), (11, .own 3 0 v17.length), (28, vi ((ix a1 v14).Count)), (29, vi v18), (12, vi y23)] [some (.row 3 (List.map eCoil v22)), some (.row 1 (List.map (eS 1 vi) v13)), some (.row 3 [.agg [vi v19, vi v20, vi v21]]), some (.row 1 (List.map vi v17)), none, none, none, none, none, none, none, none, none, none] (by kernel_rfl) ?_
      refine de (.undef) [some (.row 3 (List.map eCoil (List.set v22 y23.toNat (Coil.mk ((ix v22 y23.toNat).Name) ((ix v22 y23.toNat).Gauge) (((ix v22 y23.toNat).Length) - v20))))), some (.row 1 (List.map (eS 1 vi) v13)), some (.row 3 [.agg [vi v19, vi v20, vi v21]]), some (.row 1 (List.map vi v17)), none, none, none, none, none, none, none, none, none, none, none] (cy (IN (.store 1 (.t 45) (.t 43)))) (ok_store_m (l := v22) (e := eCoil) (x' := (Coil.mk ((ix v22 y23.toNat).Name) ((ix v22 y23.toNat).Gauge) (((ix v22 y23.toNat).Length) - v20))) (u := vi (((ix v22 y23.toNat).Length) - v20)) rfl rfl rfl c6 rfl rfl) rfl rfl rfl ?_
      refine RegD.done rfl (by kernel_rfl) (S' := ⟨[(7, .own 0 0 v22.length), (8, .own 1 0 v13.length), (21, eS 3 eWirePiece a1), (22, vi (a1.length : Int)), (23, vi v14), (10, .ptr 2 0 0), (11, .own 3 0 v17.length), (28, vi ((ix a1 v14).Count)), (29, vi v18), (12, vi y23)], [some (.row 3 (List.map eCoil (List.set v22 y23.toNat (Coil.mk ((ix v22 y23.toNat).Name) ((ix v22 y23.toNat).Gauge) (((ix v22 y23.toNat).Length) - v20))))), some (.row 1 (List.map (eS 1 vi) v13)), some (.row 3 [.agg [vi v19, vi v20, vi v21]]), some (.row 1 (List.map vi v17))]⟩) (sc [0, 1, 2, 3] (by decide) (by kernel_rfl) (obRen_row eCoil_frz rfl (obRen_row (eS_frz 1 vi) rfl (.cons rfl (obRen_row vi_frz rfl .nil)))) rfl rfl) ?_
      refine TriE.regJ ?_
      refine rn 3 [(7, .own 0 0 v22.length), (8, .own 1 0 v13.length), (21, eS 3 eWirePiece a1), (22, vi (a1.length : Int)), (23, vi v14), (10, .ptr 2 0 0), (28, vi ((ix a1 v14).Count)), (29, vi v18), (46, .own 3 0 v17.length), (48, .own 4 0 1)] [some (.row 3 (List.map eCoil (List.set v22 y23.toNat (Coil.mk ((ix v22 y23.toNat).Name) ((ix v22 y23.toNat).Gauge) (((ix v22 y23.toNat).Length) - v20))))), some (.row 1 (List.map (eS 1 vi) v13)), some (.row 3 [.agg [vi v19, vi v20, vi v21]]), some (.row 1 (List.map vi v17)), some (.row 1 [vi y23])] ?_
      obtain ⟨c8, h⟩ := chk_some h
      refine je (.own 5 0 ((v17 ++ ([y23] : List Int)).length)) [some (.row 3 (List.map eCoil (List.set v22 y23.toNat (Coil.mk ((ix v22 y23.toNat).Name) ((ix v22 y23.toNat).Gauge) (((ix v22 y23.toNat).Length) - v20))))), some (.row 1 (List.map (eS 1 vi) v13)), some (.row 3 [.agg [vi v19, vi v20, vi v21]]), none, some (.row 1 [vi y23]), some (.row 1 (List.map vi (v17 ++ ([y23] : List Int))))] (cy (I0 49 (.app 1 8 (.t 46) (.t 48)))) (ok_app_own (l := v17) (l2 := ([y23] : List Int)) (e := vi) (u := .own 4 0 1) rfl rfl rfl rfl rfl c8) rfl rfl rfl ?_
      refine jq 1 [(7, .own 0 0 v22.length), (8, .own 1 0 v13.length), (21, eS 3 eWirePiece a1), (22, vi (a1.length : Int)), (23, vi v14), (10, .ptr 2 0 0), (28, vi ((ix a1 v14).Count)), (29, vi v18), (11, .own 5 0 ((v17 ++ ([y23] : List Int)).length))] [some (.row 3 (List.map eCoil (List.set v22 y23.toNat (Coil.mk ((ix v22 y23.toNat).Name) ((ix v22 y23.toNat).Gauge) (((ix v22 y23.toNat).Length) - v20))))), some (.row 1 (List.map (eS 1 vi) v13)), some (.row 3 [.agg [vi v19, vi v20, vi v21]]), none, some (.row 1 [vi y23]), some (.row 1 (List.map vi (v17 ++ ([y23] : List Int))))] ?_
      refine TriE.regJ ?_
      obtain ⟨c9, h⟩ := chk_some h
      refine jv (vi ((v18 + 1 : Nat) : Int)) (cy (I0 50 (.bin .add false (.t 29) (.c (.p (.int .i64 1)))))) (r_addn (i := v18) (j := 1) rfl rfl c9) rfl ?_
      refine jq 1 [(7, .own 0 0 v22.length), (8, .own 1 0 v13.length), (21, eS 3 eWirePiece a1), (22, vi (a1.length : Int)), (23, vi v14), (10, .ptr 2 0 0), (28, vi ((ix a1 v14).Count)), (11, .own 5 0 ((v17 ++ ([y23] : List Int)).length)), (29, vi ((v18 + 1 : Nat) : Int))] [some (.row 3 (List.map eCoil (List.set v22 y23.toNat (Coil.mk ((ix v22 y23.toNat).Name) ((ix v22 y23.toNat).Gauge) (((ix v22 y23.toNat).Length) - v20))))), some (.row 1 (List.map (eS 1 vi) v13)), some (.row 3 [.agg [vi v19, vi v20, vi v21]]), none, some (.row 1 [vi y23]), some (.row 1 (List.map vi (v17 ++ ([y23] : List Int))))] ?_
      exact Vs.intro (Sees.cov (Cov.mk2 (rs := [0, 1, 2, 5]) (by decide) rfl rfl (.cons (.inl (by simp only [List.length_set]; rfl)) (.cons (.inl rfl) (.cons (.inl rfl) (.cons (.inl rfl) (.cons (.inl rfl) (.cons (.inl rfl) (.cons (.inl rfl) (.cons (.inl rfl) (.cons (.inl rfl) .nil))))))))) (obRen_row eCoil_frz rfl (obRen_row (eS_frz 1 vi) rfl (.cons rfl (obRen_row vi_frz rfl .nil)))))) ⟨((v17 ++ ([y23] : List Int)), v18 + 1, v19, v20, v21, (List.set v22 y23.toNat (Coil.mk ((ix v22 y23.toNat).Name) ((ix v22 y23.toNat).Gauge) (((ix v22 y23.toNat).Length) - v20)))), rfl, h⟩
    have h := cond_f h c3
    refine TriE.exit ?_
    exact Vs.intro (sc [0, 1, 3] (by decide) (by kernel_rfl) (obRen_row eCoil_frz rfl (obRen_row (eS_frz 1 vi) rfl (obRen_row vi_frz rfl .nil))) rfl rfl) ⟨(v17, v22), rfl, h⟩
  have h := cond_f h c2
  refine TriE.exit ?_
  exact Vs.intro (sc [1] (by decide) (by kernel_rfl) (obRen_row (eS_frz 1 vi) rfl .nil) rfl rfl) ⟨v13, rfl, h⟩
theorem restore_Split_f1_ok (n : Nat) (a0 : Int) (r : Unit) (h : restore_Split_f1 n a0 = some r) : FnL Tryz.prog 148 [vi a0] [] (vb (!((decide (0 ≤ a0)) && (decide (a0 ≤ 1000000))))) [] := by
  dsimp only [restore_Split_f1] at h
  refine FnL.ofS (ts := [2]) Tryz.call148 Tryz.func148 rfl rfl (Nat.le_of_ble_eq_true rfl) (Nat.le_of_ble_eq_true rfl) (fun j h => absurd h (Nat.not_lt_zero j)) ?_
  refine sr [(0, vi a0)] [] ?_
  refine sj ?_
  refine rn 1 [(3, vi a0)] [] ?_
  obtain ⟨y1, hy1, h⟩ := bind_some h
  refine RegJ.op (Op1.call (y' := vb ((decide (0 ≤ a0)) && (decide (a0 ≤ 1000000)))) (obx := []) (oby := []) (ob2 := []) _ _ (cy (I0 4 (.call 91 [(.t 3), (.c (.p (.int .i64 0))), (.c (.p (.int .i64 1000000)))]))) rfl (restore_within_ok n a0 0 1000000 y1 hy1) [] (by kernel_rfl) (.cons rfl (.cons rfl (.cons rfl (.cons rfl .nil)))) (by kernel_rfl) (by kernel_rfl) ObsRen.nil (by kernel_rfl) ObsRen.nil (by kernel_rfl)) ?_
  refine jq 2 [(2, vb (!((decide (0 ≤ a0)) && (decide (a0 ≤ 1000000)))))] [] ?_
  refine TriE.ret ?_
  have h := Option.some.inj h
  subst h
  exact DoneS.ret (S' := ⟨[(2, vb (!((decide (0 ≤ a0)) && (decide (a0 ≤ 1000000)))))], []⟩) Sees.refl rfl rfl
theorem slices_IndexFunc_int_ok (n : Nat) (a0 : List Int) (r : Int) (h : slices_IndexFunc_int n a0 = some r) : FnL Tryz.prog 180 [eS 1 vi a0, .fn (.func 148) [] []] [] (vi r) [] := by
  dsimp only [slices_IndexFunc_int] at h
  refine FnL.ofS (ts := [4]) Tryz.call180 Tryz.func180 rfl rfl (Nat.le_of_ble_eq_true rfl) (Nat.le_of_ble_eq_true rfl) (fun j h => absurd h (Nat.not_lt_zero j)) ?_
  refine sr [(0, eS 1 vi a0), (1, .fn (.func 148) [] [])] [] ?_
  refine TriE.seqK h (fun (_ : Unit) => St.mk [] []) ?_ ?_
  · rintro ⟨⟩ h
    refine sr [(4, vi (-1))] [] ?_
    refine TriE.ret ?_
    have h := Option.some.inj h
    subst h
    exact DoneS.ret (S' := ⟨[(4, vi (-1))], []⟩) Sees.refl rfl rfl
  intro k1 h
  refine sj ?_
  refine rn 1 [(0, eS 1 vi a0), (1, .fn (.func 148) [] []), (6, eS 1 vi a0)] [] ?_
  refine jv (vi (a0.length : Int)) (cy (I0 7 (.len 0 (.t 6)))) (ok_len_m rfl) rfl ?_
  refine jq 1 [(0, eS 1 vi a0), (1, .fn (.func 148) [] []), (7, vi (a0.length : Int)), (8, vi 0)] [] ?_
  refine TriE.block ?_
  refine TriE.sees (S' := ⟨[(0, eS 1 vi a0), (1, .fn (.func 148) [] []), (7, vi (a0.length : Int)), (8, vi 0)], []⟩) sy ?_
  refine TriE.loopN h (fun (v2 : Nat) => St.mk [(0, eS 1 vi a0), (1, .fn (.func 148) [] []), (7, vi (a0.length : Int)), (8, vi v2)] []) rfl ?_
  clear h
  rintro back v2 h
  dsimp only [slices_IndexFunc_int_L1] at h
  refine sj ?_
  refine jv (vb (decide (v2 < a0.length))) (cy (I0 9 (.bin .lss false (.t 8) (.t 7)))) (n_lss (i := v2) (j := a0.length) rfl rfl) rfl ?_
  refine jp [(0, eS 1 vi a0), (1, .fn (.func 148) [] []), (7, vi (a0.length : Int)), (8, vi v2), (9, vb (decide (v2 < a0.length)))] ?_
  refine TriE.seq ?_
  refine TriE.cond (b := decide (v2 < a0.length)) rfl (fun c1 => ?_) (fun c1 => ?_)
  · have h := cond_t h c1
    refine TriE.skip ?_
    refine TriE.seq ?_
    refine TriE.block ?_
    refine sr [(0, eS 1 vi a0), (1, .fn (.func 148) [] []), (7, vi (a0.length : Int)), (8, vi v2), (5, vi v2)] [] ?_
    refine sj ?_
    refine rn 3 [(0, eS 1 vi a0), (1, .fn (.func 148) [] []), (7, vi (a0.length : Int)), (8, vi v2), (5, vi v2), (11, .fn (.func 148) [] []), (12, eS 1 vi a0), (13, vi v2)] [] ?_
    refine jv (.fptr 1 (List.map vi a0) v2 0) (cy (I0 14 (.iaddr 1 (.t 12) (.t 13)))) (ok_iaddr_m (j := v2) rfl rfl rfl c1) rfl ?_
    refine jv (vi (ix a0 v2)) (cy (I0 15 (.load false 1 (.t 14)))) (ok_load_fm (v := vi (ix a0 v2)) rfl c1 rfl) rfl ?_
    obtain ⟨y3, hy3, h⟩ := bind_some h
    refine RegJ.op (Op1.dyn (y' := vb (!((decide (0 ≤ (ix a0 v2))) && (decide ((ix a0 v2) ≤ 1000000))))) (obx := []) (oby := []) (ob2 := []) _ _ _ (cy (I0 16 (.dyn (.t 11) [(.t 15)]))) rfl rfl (restore_Split_f1_ok n (ix a0 v2) y3 hy3) [] (by kernel_rfl) (.cons rfl (.cons rfl .nil)) (by kernel_rfl) (by kernel_rfl) ObsRen.nil (by kernel_rfl) ObsRen.nil (by kernel_rfl)) ?_
    refine jp [(0, eS 1 vi a0), (1, .fn (.func 148) [] []), (7, vi (a0.length : Int)), (8, vi v2), (5, vi v2), (16, vb (!((decide (0 ≤ (ix a0 v2))) && (decide ((ix a0 v2) ≤ 1000000)))))] ?_
    refine TriE.cond (b := !((decide (0 ≤ (ix a0 v2))) && (decide ((ix a0 v2) ≤ 1000000)))) rfl (fun c2 => ?_) (fun c2 => ?_)
    · have h := cond_t h c2
      refine sr [(4, vi v2)] [] ?_
      refine TriE.ret ?_
      have h := Option.some.inj h
      subst h
      exact DoneS.ret (S' := ⟨[(4, vi v2)], []⟩) Sees.refl rfl rfl
    have h := cond_f h c2
    refine TriE.skip ?_
    refine TriE.regJ ?_
    obtain ⟨c3, h⟩ := chk_some h
    refine jv (vi ((v2 + 1 : Nat) : Int)) (cy (I0 18 (.bin .add false (.t 8) (.c (.p (.int .i64 1)))))) (r_addn (i := v2) (j := 1) rfl rfl c3) rfl ?_
    refine jq 1 [(0, eS 1 vi a0), (1, .fn (.func 148) [] []), (7, vi (a0.length : Int)), (8, vi ((v2 + 1 : Nat) : Int))] [] ?_
    exact Vs.intro sy ⟨(v2 + 1), rfl, h⟩
  have h := cond_f h c1
  refine TriE.exit ?_
  exact Vs.intro sy ⟨(), rfl, h⟩
theorem slices_ContainsFunc_int_ok (n : Nat) (a0 : List Int) (r : Bool) (h : slices_ContainsFunc_int n a0 = some r) : FnL Tryz.prog 126 [eS 1 vi a0, .fn (.func 148) [] []] [] (vb r) [] := by
  dsimp only [slices_ContainsFunc_int] at h
  refine FnL.ofS (ts := [4]) Tryz.call126 Tryz.func126 rfl rfl (Nat.le_of_ble_eq_true rfl) (Nat.le_of_ble_eq_true rfl) (fun j h => absurd h (Nat.not_lt_zero j)) ?_
  refine sr [(0, eS 1 vi a0), (1, .fn (.func 148) [] [])] [] ?_
  refine sj ?_
  refine rn 2 [(5, eS 1 vi a0), (6, .fn (.func 148) [] [])] [] ?_
  obtain ⟨y1, hy1, h⟩ := bind_some h
  refine RegJ.op (Op1.call (y' := vi y1) (obx := []) (oby := []) (ob2 := []) _ _ (cy (I0 7 (.call 180 [(.t 5), (.t 6)]))) rfl (slices_IndexFunc_int_ok n a0 y1 hy1) [] (by kernel_rfl) (.cons rfl (.cons rfl (.cons rfl .nil))) (by kernel_rfl) (by kernel_rfl) ObsRen.nil (by kernel_rfl) ObsRen.nil (by kernel_rfl)) ?_
  refine jq 2 [(4, vb (decide ((0 : Int) ≤ y1)))] [] ?_
  refine TriE.ret ?_
  have h := Option.some.inj h
  subst h
  exact DoneS.ret (S' := ⟨[(4, vb (decide ((0 : Int) ≤ y1)))], []⟩) Sees.refl rfl rfl
theorem slices_Max_int_ok (n : Nat) (a0 : List Int) (r : Int) (h : slices_Max_int n a0 = some r) : FnL Tryz.prog 149 [eS 1 vi a0] [] (vi r) [] := by
  dsimp only [slices_Max_int] at h
  refine FnL.ofS (ts := [2]) Tryz.call149 Tryz.func149 rfl rfl (Nat.le_of_ble_eq_true rfl) (Nat.le_of_ble_eq_true rfl) (fun j h => absurd h (Nat.not_lt_zero j)) ?_
  refine sr [(0, eS 1 vi a0)] [] ?_
  refine TriE.seq ?_
  refine sj ?_
  refine rn 1 [(0, eS 1 vi a0), (5, eS 1 vi a0)] [] ?_
  refine jv (vi (a0.length : Int)) (cy (I0 6 (.len 0 (.t 5)))) (ok_len_m rfl) rfl ?_
  refine jv (vb (decide (a0.length < 1))) (cy (I0 7 (.bin .lss false (.t 6) (.c (.p (.int .i64 1)))))) (n_lss (i := a0.length) (j := 1) rfl rfl) rfl ?_
  refine jp [(0, eS 1 vi a0), (7, vb (decide (a0.length < 1)))] ?_
  refine TriE.cond (b := decide (a0.length < 1)) rfl (fun c1 => ?_) (fun c1 => ?_)
  · have h := cond_t h c1
    refine TriE.regJ ?_
    cases h
  have h := cond_f h c1
  refine TriE.skip ?_
  refine sj ?_
  refine rn 1 [(0, eS 1 vi a0), (9, eS 1 vi a0)] [] ?_
  obtain ⟨c2, h⟩ := chk_some h
  refine jv (.fptr 1 (List.map vi a0) 0 0) (cy (I0 10 (.iaddr 1 (.t 9) (.c (.p (.int .i64 0)))))) (ok_iaddr_m (j := 0) rfl rfl rfl c2) rfl ?_
  refine jv (vi (ix a0 0)) (cy (I0 11 (.load false 1 (.t 10)))) (ok_load_fm (v := vi (ix a0 0)) rfl c2 rfl) rfl ?_
  refine jq 1 [(0, eS 1 vi a0), (3, vi (ix a0 0))] [] ?_
  refine TriE.seqK h (fun (v3 : Int) => St.mk [(3, vi v3)] []) ?_ ?_
  · rintro v3 h
    refine sr [(2, vi v3)] [] ?_
    refine TriE.ret ?_
    have h := Option.some.inj h
    subst h
    exact DoneS.ret (S' := ⟨[(2, vi v3)], []⟩) Sees.refl rfl rfl
  intro k1 h
  refine sr [(0, eS 1 vi a0), (3, vi (ix a0 0)), (4, vi 1)] [] ?_
  refine TriE.block ?_
  refine TriE.sees (S' := ⟨[(0, eS 1 vi a0), (3, vi (ix a0 0)), (4, vi 1)], []⟩) sy ?_
  refine TriE.loopN h (fun (t : Int × Nat) => match t with | (v1, v2) => St.mk [(0, eS 1 vi a0), (3, vi v1), (4, vi v2)] []) rfl ?_
  clear h
  rintro back ⟨v1, v2⟩ h
  dsimp only [slices_Max_int_L1] at h
  refine TriE.seq ?_
  refine sj ?_
  refine rn 2 [(0, eS 1 vi a0), (3, vi v1), (4, vi v2), (12, vi v2), (13, eS 1 vi a0)] [] ?_
  refine jv (vi (a0.length : Int)) (cy (I0 14 (.len 0 (.t 13)))) (ok_len_m rfl) rfl ?_
  refine jv (vb (decide (v2 < a0.length))) (cy (I0 15 (.bin .lss false (.t 12) (.t 14)))) (n_lss (i := v2) (j := a0.length) rfl rfl) rfl ?_
  refine jp [(0, eS 1 vi a0), (3, vi v1), (4, vi v2), (15, vb (decide (v2 < a0.length)))] ?_
  refine TriE.cond (b := decide (v2 < a0.length)) rfl (fun c3 => ?_) (fun c3 => ?_)
  · have h := cond_t h c3
    refine TriE.skip ?_
    refine TriE.seq ?_
    refine TriE.block ?_
    refine TriE.regJ ?_
    refine rn 3 [(0, eS 1 vi a0), (4, vi v2), (18, vi v1), (19, eS 1 vi a0), (20, vi v2)] [] ?_
    refine jv (.fptr 1 (List.map vi a0) v2 0) (cy (I0 21 (.iaddr 1 (.t 19) (.t 20)))) (ok_iaddr_m (j := v2) rfl rfl rfl c3) rfl ?_
    refine jv (vi (ix a0 v2)) (cy (I0 22 (.load false 1 (.t 21)))) (ok_load_fm (v := vi (ix a0 v2)) rfl c3 rfl) rfl ?_
    refine jq 2 [(0, eS 1 vi a0), (4, vi v2), (3, vi (iMax v1 (ix a0 v2)))] [] ?_
    refine TriE.regJ ?_
    refine rn 1 [(0, eS 1 vi a0), (3, vi (iMax v1 (ix a0 v2))), (16, vi v2)] [] ?_
    obtain ⟨c4, h⟩ := chk_some h
    refine jv (vi ((v2 + 1 : Nat) : Int)) (cy (I0 17 (.bin .add false (.t 16) (.c (.p (.int .i64 1)))))) (r_addn (i := v2) (j := 1) rfl rfl c4) rfl ?_
    refine jq 1 [(0, eS 1 vi a0), (3, vi (iMax v1 (ix a0 v2))), (4, vi ((v2 + 1 : Nat) : Int))] [] ?_
    exact Vs.intro sy ⟨(iMax v1 (ix a0 v2), v2 + 1), rfl, h⟩
  have h := cond_f h c3
  refine TriE.exit ?_
  exact Vs.intro sy ⟨v1, rfl, h⟩
theorem restore_Split_f2_ok (n : Nat) (a0 : Int) (a1 : Int) (a2 : Int) (a3 : List Int) (a4 : Int) (r : Int) (h : restore_Split_f2 n a0 a1 a2 a3 a4 = some r) : FnL Tryz.prog 151 [vi a0, vi a1, .ptr 0 0 0, .ptr 1 0 0, .ptr 2 0 0] [some (.row 1 [vi a2]), some (.row 1 [eS 1 vi a3]), some (.row 1 [vi a4])] (vi r) [some (.row 1 [vi a2]), some (.row 1 [eS 1 vi a3]), some (.row 1 [vi a4])] := by
  dsimp only [restore_Split_f2] at h
  refine FnL.ofS (ts := [7]) Tryz.call151 Tryz.func151 rfl rfl (Nat.le_of_ble_eq_true rfl) (Nat.le_of_ble_eq_true rfl) (hall_of (.cons rfl (.cons rfl (.cons rfl .nil)))) ?_
  refine sr [(0, vi a0), (1, vi a1), (2, .ptr 0 0 0), (3, .ptr 1 0 0), (4, .ptr 2 0 0)] [some (.row 1 [vi a2]), some (.row 1 [eS 1 vi a3]), some (.row 1 [vi a4])] ?_
  refine TriE.seq ?_
  refine TriE.sees (Sees.less (fr' := [(0, vi a0), (1, vi a1), (2, .ptr 0 0 0), (3, .ptr 1 0 0), (4, .ptr 2 0 0)]) (.cons rfl (.cons rfl (.cons rfl (.cons rfl (.cons rfl .nil)))))) ?_
  refine TriE.draw (by kernel_rfl) ?_
  refine RegD.run 3 [(10, vi a1), (9, eS 1 vi a3), (8, vi a2), (0, vi a0), (1, vi a1), (2, .ptr 0 0 0), (3, .ptr 1 0 0), (4, .ptr 2 0 0)] [some (.row 1 [vi a2]), some (.row 1 [eS 1 vi a3]), some (.row 1 [vi a4]), none, none, none] (by kernel_rfl) ?_
  obtain ⟨c1, h⟩ := chk_some h
  refine dv (.fptr 1 (List.map vi a3) a1.toNat 0) (cy (I0 11 (.iaddr 1 (.t 9) (.t 10)))) (ok_iaddr_m (j := a1.toNat) rfl rfl (inB_to c1) (inB_lt c1)) rfl ?_
  obtain ⟨c2, h⟩ := chk_some h
  refine dv (vi (ix a3 a1.toNat)) (cy (I0 12 (.load false 1 (.t 11)))) (ok_load_fm (v := vi (ix a3 a1.toNat)) rfl c2 rfl) rfl ?_
  obtain ⟨c3, h⟩ := chk_some h
  refine dv (vi (a2 * (ix a3 a1.toNat))) (cy (I0 13 (.bin .mul false (.t 8) (.t 12)))) (r_mul rfl rfl c3) rfl ?_
  refine RegD.run 1 [(14, vi a4), (13, vi (a2 * (ix a3 a1.toNat))), (12, vi (ix a3 a1.toNat)), (11, .fptr 1 (List.map vi a3) a1.toNat 0), (10, vi a1), (9, eS 1 vi a3), (8, vi a2), (0, vi a0), (1, vi a1), (2, .ptr 0 0 0), (3, .ptr 1 0 0), (4, .ptr 2 0 0)] [some (.row 1 [vi a2]), some (.row 1 [eS 1 vi a3]), some (.row 1 [vi a4]), none, none, none, none, none, none, none] (by kernel_rfl) ?_
  obtain ⟨c4, h⟩ := chk_some h
  refine dv (vi (Int.tmod (a2 * (ix a3 a1.toNat)) a4)) (cy (I0 15 (.bin .rem false (.t 13) (.t 14)))) (r_rem rfl rfl c4) rfl ?_
  refine RegD.run 3 [(18, vi a0), (17, eS 1 vi a3), (16, vi a2), (15, vi (Int.tmod (a2 * (ix a3 a1.toNat)) a4)), (14, vi a4), (13, vi (a2 * (ix a3 a1.toNat))), (12, vi (ix a3 a1.toNat)), (11, .fptr 1 (List.map vi a3) a1.toNat 0), (10, vi a1), (9, eS 1 vi a3), (8, vi a2), (0, vi a0), (1, vi a1), (2, .ptr 0 0 0), (3, .ptr 1 0 0), (4, .ptr 2 0 0)] [some (.row 1 [vi a2]), some (.row 1 [eS 1 vi a3]), some (.row 1 [vi a4]), none, none, none, none, none, none, none, none, none, none, none] (by kernel_rfl) ?_
  obtain ⟨c5, h⟩ := chk_some h
  refine dv (.fptr 1 (List.map vi a3) a0.toNat 0) (cy (I0 19 (.iaddr 1 (.t 17) (.t 18)))) (ok_iaddr_m (j := a0.toNat) rfl rfl (inB_to c5) (inB_lt c5)) rfl ?_
  obtain ⟨c6, h⟩ := chk_some h
  refine dv (vi (ix a3 a0.toNat)) (cy (I0 20 (.load false 1 (.t 19)))) (ok_load_fm (v := vi (ix a3 a0.toNat)) rfl c6 rfl) rfl ?_
  obtain ⟨c7, h⟩ := chk_some h
  refine dv (vi (a2 * (ix a3 a0.toNat))) (cy (I0 21 (.bin .mul false (.t 16) (.t 20)))) (r_mul rfl rfl c7) rfl ?_
  refine RegD.run 1 [(22, vi a4), (21, vi (a2 * (ix a3 a0.toNat))), (20, vi (ix a3 a0.toNat)), (19, .fptr 1 (List.map vi a3) a0.toNat 0), (18, vi a0), (17, eS 1 vi a3), (16, vi a2), (15, vi (Int.tmod (a2 * (ix a3 a1.toNat)) a4)), (14, vi a4), (13, vi (a2 * (ix a3 a1.toNat))), (12, vi (ix a3 a1.toNat)), (11, .fptr 1 (List.map vi a3) a1.toNat 0), (10, vi a1), (9, eS 1 vi a3), (8, vi a2), (0, vi a0), (1, vi a1), (2, .ptr 0 0 0), (3, .ptr 1 0 0), (4, .ptr 2 0 0)] [some (.row 1 [vi a2]), some (.row 1 [eS 1 vi a3]), some (.row 1 [vi a4]), none, none, none, none, none, none, none, none, none, none, none, none, none, none, none] (by kernel_rfl) ?_
  refine dv (vi (Int.tmod (a2 * (ix a3 a0.toNat)) a4)) (cy (I0 23 (.bin .rem false (.t 21) (.t 22)))) (r_rem rfl rfl c4) rfl ?_
  obtain ⟨y1, hy1, h⟩ := bind_some h
  refine RegD.op (OpD.call (y' := vi y1) (obx := []) (oby := []) (ob2 := [some (.row 1 [vi a2]), some (.row 1 [eS 1 vi a3]), some (.row 1 [vi a4]), none, none, none, none, none, none, none, none, none, none, none, none, none, none, none, none, none]) (tch := []) 0 _ _ (cy (I0 24 (.call 137 [(.t 15), (.t 23)]))) (cmp_Compare_int_ok n (Int.tmod (a2 * (ix a3 a1.toNat)) a4) (Int.tmod (a2 * (ix a3 a0.toNat)) a4) y1 hy1) [] (by kernel_rfl) (.cons rfl (.cons rfl (.cons rfl .nil))) (by kernel_rfl) (by kernel_rfl) ObsRen.nil (by kernel_rfl) ObsRen.nil (by kernel_rfl) rfl (.inr ⟨rfl, rfl⟩)) ?_
  refine RegD.run 1 [(7, vi y1), (24, vi y1), (23, vi (Int.tmod (a2 * (ix a3 a0.toNat)) a4)), (22, vi a4), (21, vi (a2 * (ix a3 a0.toNat))), (20, vi (ix a3 a0.toNat)), (19, .fptr 1 (List.map vi a3) a0.toNat 0), (18, vi a0), (17, eS 1 vi a3), (16, vi a2), (15, vi (Int.tmod (a2 * (ix a3 a1.toNat)) a4)), (14, vi a4), (13, vi (a2 * (ix a3 a1.toNat))), (12, vi (ix a3 a1.toNat)), (11, .fptr 1 (List.map vi a3) a1.toNat 0), (10, vi a1), (9, eS 1 vi a3), (8, vi a2), (0, vi a0), (1, vi a1), (2, .ptr 0 0 0), (3, .ptr 1 0 0), (4, .ptr 2 0 0)] [some (.row 1 [vi a2]), some (.row 1 [eS 1 vi a3]), some (.row 1 [vi a4]), none, none, none, none, none, none, none, none, none, none, none, none, none, none, none, none, none, none] (by kernel_rfl) ?_
  refine RegD.done rfl (by kernel_rfl) (S' := ⟨[(7, vi y1)], [some (.row 1 [vi a2]), some (.row 1 [eS 1 vi a3]), some (.row 1 [vi a4])]⟩) (sc [0, 1, 2] (by decide) (by kernel_rfl) (.cons rfl (.cons rfl (.cons rfl .nil))) rfl rfl) ?_
  refine TriE.ret ?_
  have h := Option.some.inj h
  subst h
  exact DoneS.ret (S' := ⟨[(7, vi y1)], [some (.row 1 [vi a2]), some (.row 1 [eS 1 vi a3]), some (.row 1 [vi a4])]⟩) Sees.refl rfl rfl
theorem slices_insertionSortCmpFunc_int_ok (n : Nat) (a0 : List Int) (a1 : Int) (a2 : Int) (a3 : Int) (a4 : List Int) (a5 : Int) (r : (List Int)) (h : slices_insertionSortCmpFunc_int n a0 a1 a2 a3 a4 a5 = some r) : FnL Tryz.prog 217 [.own 0 0 a0.length, vi a1, vi a2, .fn (.func 151) [] [.ptr 1 0 0, .ptr 2 0 0, .ptr 3 0 0]] [some (.row 1 (List.map vi a0)), some (.row 1 [vi a3]), some (.row 1 [eS 1 vi a4]), some (.row 1 [vi a5])] (.tup []) [some (.row 1 (List.map vi r)), some (.row 1 [vi a3]), some (.row 1 [eS 1 vi a4]), some (.row 1 [vi a5])] := by
  dsimp only [slices_insertionSortCmpFunc_int] at h
  refine FnL.ofS (ts := []) Tryz.call217 Tryz.func217 rfl rfl (Nat.le_of_ble_eq_true rfl) (Nat.le_of_ble_eq_true rfl) (hall_of (.cons rfl (.cons rfl (.cons rfl (.cons rfl .nil))))) ?_
  refine sj ?_
  refine rn 1 [(0, .own 0 0 a0.length), (1, vi a1), (2, vi a2), (3, .fn (.func 151) [] [.ptr 1 0 0, .ptr 2 0 0, .ptr 3 0 0]), (10, vi a1)] [some (.row 1 (List.map vi a0)), some (.row 1 [vi a3]), some (.row 1 [eS 1 vi a4]), some (.row 1 [vi a5])] ?_
  obtain ⟨c1, h⟩ := chk_some h
  refine jv (vi (a1 + 1)) (cy (I0 11 (.bin .add false (.t 10) (.c (.p (.int .i64 1)))))) (r_add rfl rfl c1) rfl ?_
  refine jq 1 [(0, .own 0 0 a0.length), (1, vi a1), (2, vi a2), (3, .fn (.func 151) [] [.ptr 1 0 0, .ptr 2 0 0, .ptr 3 0 0]), (8, vi (a1 + 1))] [some (.row 1 (List.map vi a0)), some (.row 1 [vi a3]), some (.row 1 [eS 1 vi a4]), some (.row 1 [vi a5])] ?_
  refine TriE.block ?_
  refine TriE.loopN h (fun (t : Int × (List Int)) => match t with | (v6, v7) => St.mk [(0, .own 0 0 v7.length), (1, vi a1), (2, vi a2), (3, .fn (.func 151) [] [.ptr 1 0 0, .ptr 2 0 0, .ptr 3 0 0]), (8, vi v6)] [some (.row 1 (List.map vi v7)), some (.row 1 [vi a3]), some (.row 1 [eS 1 vi a4]), some (.row 1 [vi a5])]) rfl ?_
  clear h
  rintro back ⟨v6, v7⟩ h
  dsimp only [slices_insertionSortCmpFunc_int_L2] at h
  refine TriE.seq ?_
  refine sr [(0, .own 0 0 v7.length), (1, vi a1), (2, vi a2), (3, .fn (.func 151) [] [.ptr 1 0 0, .ptr 2 0 0, .ptr 3 0 0]), (8, vi v6), (14, vb (decide (v6 < a2)))] [some (.row 1 (List.map vi v7)), some (.row 1 [vi a3]), some (.row 1 [eS 1 vi a4]), some (.row 1 [vi a5])] ?_
  refine TriE.cond (b := decide (v6 < a2)) rfl (fun c2 => ?_) (fun c2 => ?_)
  · have h := cond_t h c2
    refine TriE.skip ?_
    refine TriE.seqK h (fun (v12 : (List Int)) => St.mk [(0, .own 0 0 v12.length), (1, vi a1), (2, vi a2), (3, .fn (.func 151) [] [.ptr 1 0 0, .ptr 2 0 0, .ptr 3 0 0]), (8, vi v6)] [some (.row 1 (List.map vi v12)), some (.row 1 [vi a3]), some (.row 1 [eS 1 vi a4]), some (.row 1 [vi a5])]) ?_ ?_
    · rintro v12 h
      refine TriE.regJ ?_
      refine rn 1 [(0, .own 0 0 v12.length), (1, vi a1), (2, vi a2), (3, .fn (.func 151) [] [.ptr 1 0 0, .ptr 2 0 0, .ptr 3 0 0]), (15, vi v6)] [some (.row 1 (List.map vi v12)), some (.row 1 [vi a3]), some (.row 1 [eS 1 vi a4]), some (.row 1 [vi a5])] ?_
      obtain ⟨c15, h⟩ := chk_some h
      refine jv (vi (v6 + 1)) (cy (I0 16 (.bin .add false (.t 15) (.c (.p (.int .i64 1)))))) (r_add rfl rfl c15) rfl ?_
      refine jq 1 [(0, .own 0 0 v12.length), (1, vi a1), (2, vi a2), (3, .fn (.func 151) [] [.ptr 1 0 0, .ptr 2 0 0, .ptr 3 0 0]), (8, vi (v6 + 1))] [some (.row 1 (List.map vi v12)), some (.row 1 [vi a3]), some (.row 1 [eS 1 vi a4]), some (.row 1 [vi a5])] ?_
      exact Vs.intro Sees.refl ⟨(v6 + 1, v12), rfl, h⟩
    intro k1 h
    refine TriE.block ?_
    refine sr [(0, .own 0 0 v7.length), (1, vi a1), (2, vi a2), (3, .fn (.func 151) [] [.ptr 1 0 0, .ptr 2 0 0, .ptr 3 0 0]), (8, vi v6), (9, vi v6)] [some (.row 1 (List.map vi v7)), some (.row 1 [vi a3]), some (.row 1 [eS 1 vi a4]), some (.row 1 [vi a5])] ?_
    refine TriE.block ?_
    refine TriE.loopN h (fun (t : Int × (List Int)) => match t with | (v9, v10) => St.mk [(0, .own 0 0 v10.length), (1, vi a1), (2, vi a2), (3, .fn (.func 151) [] [.ptr 1 0 0, .ptr 2 0 0, .ptr 3 0 0]), (8, vi v6), (9, vi v9)] [some (.row 1 (List.map vi v10)), some (.row 1 [vi a3]), some (.row 1 [eS 1 vi a4]), some (.row 1 [vi a5])]) rfl ?_
    clear h
    rintro back ⟨v9, v10⟩ h
    dsimp only [slices_insertionSortCmpFunc_int_L1] at h
    refine TriE.seq ?_
    refine TriE.seq ?_
    refine TriE.sees (Sees.less (fr' := [(0, .own 0 0 v10.length), (1, vi a1), (2, vi a2), (3, .fn (.func 151) [] [.ptr 1 0 0, .ptr 2 0 0, .ptr 3 0 0]), (8, vi v6), (9, vi v9)]) (.cons rfl (.cons rfl (.cons rfl (.cons rfl (.cons rfl (.cons rfl .nil))))))) ?_
    refine TriE.draw (by kernel_rfl) ?_
    refine RegD.run 4 [(21, vb (decide (a1 < v9))), (20, vb (decide (a1 < v9))), (19, vi a1), (18, vi v9), (0, .own 0 0 v10.length), (1, vi a1), (2, vi a2), (3, .fn (.func 151) [] [.ptr 1 0 0, .ptr 2 0 0, .ptr 3 0 0]), (8, vi v6), (9, vi v9)] [some (.row 1 (List.map vi v10)), some (.row 1 [vi a3]), some (.row 1 [eS 1 vi a4]), some (.row 1 [vi a5]), none, none, none, none] (by kernel_rfl) ?_
    refine RegD.op (OpD.valk (g := decide (a1 < v9)) (v := .fn (.func 151) [] [.ptr 1 0 0, .ptr 2 0 0, .ptr 3 0 0]) _ _ (cy (IG 22 (.mov (.t 3)) 21 true)) rfl (by kernel_rfl) (fun hg => (.cons rfl .nil))) ?_
    refine RegD.op (OpD.valk (g := decide (a1 < v9)) (v := .own 0 0 v10.length) _ _ (cy (IG 23 (.mov (.t 0)) 21 true)) rfl (by kernel_rfl) (fun hg => (.cons rfl .nil))) ?_
    refine RegD.op (OpD.valk (g := decide (a1 < v9)) (v := vi v9) _ _ (cy (IG 24 (.mov (.t 9)) 21 true)) rfl (by kernel_rfl) (fun hg => (.cons rfl .nil))) ?_
    obtain ⟨c3, h⟩ := chk_some h
    refine RegD.op (OpD.valg (g := decide (a1 < v9)) (v := .ptr 0 v9.toNat 0) _ _ (cy (IG 25 (.iaddr 1 (.t 23) (.t 24)) 21 true)) rfl (fun hg => (ok_iaddr_o0 (j := v9.toNat) rfl rfl rfl (inB_to (gor c3 hg)) (inB_lt (gor c3 hg)))) (fun hg => (.cons hg (.cons hg .nil)))) ?_
    obtain ⟨c4, h⟩ := chk_some h
    refine RegD.op (OpD.valg (g := decide (a1 < v9)) (v := vi (ix v10 v9.toNat)) _ _ (cy (IG 26 (.load false 1 (.t 25)) 21 true)) rfl (fun hg => (ok_load_pm (l := v10) (e := vi) (v := vi (ix v10 v9.toNat)) rfl rfl (gor c4 hg) rfl)) (fun hg => (.cons hg .nil))) ?_
    refine RegD.op (OpD.valk (g := decide (a1 < v9)) (v := .own 0 0 v10.length) _ _ (cy (IG 27 (.mov (.t 0)) 21 true)) rfl (by kernel_rfl) (fun hg => (.cons rfl .nil))) ?_
    refine RegD.op (OpD.valk (g := decide (a1 < v9)) (v := vi v9) _ _ (cy (IG 28 (.mov (.t 9)) 21 true)) rfl (by kernel_rfl) (fun hg => (.cons rfl .nil))) ?_
    obtain ⟨c5, h⟩ := chk_some h
    refine RegD.op (OpD.valg (g := decide (a1 < v9)) (v := vi (v9 - 1)) _ _ (cy (IG 29 (.bin .sub false (.t 28) (.c (.p (.int .i64 1)))) 21 true)) rfl (fun hg => (r_sub rfl rfl (gor c5 hg))) (fun hg => (.cons hg (.cons rfl .nil)))) ?_
    obtain ⟨c6, h⟩ := chk_some h
    refine RegD.op (OpD.valg (g := decide (a1 < v9)) (v := .ptr 0 ((v9 - 1).toNat) 0) _ _ (cy (IG 30 (.iaddr 1 (.t 27) (.t 29)) 21 true)) rfl (fun hg => (ok_iaddr_o0 (j := (v9 - 1).toNat) rfl rfl rfl (inB_to (gor c6 hg)) (inB_lt (gor c6 hg)))) (fun hg => (.cons hg (.cons hg .nil)))) ?_
    obtain ⟨c7, h⟩ := chk_some h
    refine RegD.op (OpD.valg (g := decide (a1 < v9)) (v := vi (ix v10 ((v9 - 1).toNat))) _ _ (cy (IG 31 (.load false 1 (.t 30)) 21 true)) rfl (fun hg => (ok_load_pm (l := v10) (e := vi) (v := vi (ix v10 ((v9 - 1).toNat))) rfl rfl (gor c7 hg) rfl)) (fun hg => (.cons hg .nil))) ?_
    obtain ⟨y11, hy11, h⟩ := bind_some h
    refine RegD.op (OpD.dyng (g := decide (a1 < v9)) (y' := vi y11) (obx := [some (.row 1 [vi a3]), some (.row 1 [eS 1 vi a4]), some (.row 1 [vi a5])]) _ _ _ (cy (IG 32 (.dyn (.t 22) [(.t 26), (.t 31)]) 21 true)) rfl rfl (fun hg => restore_Split_f2_ok n (ix v10 v9.toNat) (ix v10 ((v9 - 1).toNat)) a3 a4 a5 y11 (gcall_some hy11 hg)) [1, 2, 3] (fun hg => by kernel_rfl) (fun hg => (.cons hg (.cons hg (.cons hg .nil)))) (by kernel_rfl) (by kernel_rfl) (.cons rfl (.cons rfl (.cons rfl .nil))) (by kernel_rfl) (by kernel_rfl) rfl) ?_
    refine RegD.op (OpD.valk (g := decide (a1 < v9)) (v := vb (decide (y11 < (0 : Int)))) _ _ (cy (IG 33 (.bin .lss false (.t 32) (.c (.p (.int .i64 0)))) 21 true)) rfl (by kernel_rfl) (fun hg => (.cons hg (.cons rfl .nil)))) ?_
    refine RegD.op (OpD.and (cy (I0 34 (.pick (.t 21) (.t 33) (.c (.p (.bool false)))))) rfl rfl (by first | exact hokA1 | exact hokA0 | simp)) ?_
    refine RegD.done rfl (by kernel_rfl) (S' := ⟨[(0, .own 0 0 v10.length), (1, vi a1), (2, vi a2), (3, .fn (.func 151) [] [.ptr 1 0 0, .ptr 2 0 0, .ptr 3 0 0]), (8, vi v6), (9, vi v9), (34, vb ((decide (a1 < v9)) && (decide (y11 < (0 : Int)))))], [some (.row 1 (List.map vi v10)), some (.row 1 [vi a3]), some (.row 1 [eS 1 vi a4]), some (.row 1 [vi a5])]⟩) (sc [0, 1, 2, 3] (by decide) (by kernel_rfl) (obRen_row vi_frz rfl (.cons rfl (.cons rfl (.cons rfl .nil)))) rfl rfl) ?_
    refine TriE.cond (b := (decide (a1 < v9)) && (decide (y11 < (0 : Int)))) rfl (fun c8 => ?_) (fun c8 => ?_)
    · have h := cond_t h c8
      refine TriE.skip ?_
      refine TriE.seq ?_
      refine TriE.block ?_
      refine TriE.sees (Sees.less (fr' := [(0, .own 0 0 v10.length), (1, vi a1), (2, vi a2), (3, .fn (.func 151) [] [.ptr 1 0 0, .ptr 2 0 0, .ptr 3 0 0]), (8, vi v6), (9, vi v9)]) (.cons rfl (.cons rfl (.cons rfl (.cons rfl (.cons rfl (.cons rfl .nil))))))) ?_
      refine TriE.draw (by kernel_rfl) ?_
      refine RegD.run 4 [(40, vi v9), (39, .own 0 0 v10.length), (38, vi v9), (37, .own 0 0 v10.length), (0, .own 0 0 v10.length), (1, vi a1), (2, vi a2), (3, .fn (.func 151) [] [.ptr 1 0 0, .ptr 2 0 0, .ptr 3 0 0]), (8, vi v6), (9, vi v9)] [some (.row 1 (List.map vi v10)), some (.row 1 [vi a3]), some (.row 1 [eS 1 vi a4]), some (.row 1 [vi a5]), none, none, none, none] (by kernel_rfl) ?_
      obtain ⟨c9, h⟩ := chk_some h
      refine dv (vi (v9 - 1)) (cy (I0 41 (.bin .sub false (.t 40) (.c (.p (.int .i64 1)))))) (r_sub rfl rfl c9) rfl ?_
      refine RegD.run 2 [(43, vi v9), (42, .own 0 0 v10.length), (41, vi (v9 - 1)), (40, vi v9), (39, .own 0 0 v10.length), (38, vi v9), (37, .own 0 0 v10.length), (0, .own 0 0 v10.length), (1, vi a1), (2, vi a2), (3, .fn (.func 151) [] [.ptr 1 0 0, .ptr 2 0 0, .ptr 3 0 0]), (8, vi v6), (9, vi v9)] [some (.row 1 (List.map vi v10)), some (.row 1 [vi a3]), some (.row 1 [eS 1 vi a4]), some (.row 1 [vi a5]), none, none, none, none, none, none, none] (by kernel_rfl) ?_
      refine dv (vi (v9 - 1)) (cy (I0 44 (.bin .sub false (.t 43) (.c (.p (.int .i64 1)))))) (r_sub rfl rfl c9) rfl ?_
      obtain ⟨c10, h⟩ := chk_some h
      refine dv (.ptr 0 ((v9 - 1).toNat) 0) (cy (I0 45 (.iaddr 1 (.t 42) (.t 44)))) (ok_iaddr_o0 (j := (v9 - 1).toNat) rfl rfl rfl (inB_to c10) (inB_lt c10)) rfl ?_
      obtain ⟨c11, h⟩ := chk_some h
      refine dv (vi (ix v10 ((v9 - 1).toNat))) (cy (I0 46 (.load false 1 (.t 45)))) (ok_load_pm (l := v10) (e := vi) (v := vi (ix v10 ((v9 - 1).toNat))) rfl rfl c11 rfl) rfl ?_
      refine RegD.run 2 [(48, vi v9), (47, .own 0 0 v10.length), (46, vi (ix v10 ((v9 - 1).toNat))), (45, .ptr 0 ((v9 - 1).toNat) 0), (44, vi (v9 - 1)), (43, vi v9), (42, .own 0 0 v10.length), (41, vi (v9 - 1)), (40, vi v9), (39, .own 0 0 v10.length), (38, vi v9), (37, .own 0 0 v10.length), (0, .own 0 0 v10.length), (1, vi a1), (2, vi a2), (3, .fn (.func 151) [] [.ptr 1 0 0, .ptr 2 0 0, .ptr 3 0 0]), (8, vi v6), (9, vi v9)] [some (.row 1 (List.map vi v10)), some (.row 1 [vi a3]), some (.row 1 [eS 1 vi a4]), some (.row 1 [vi a5]), none, none, none, none, none, none, none, none, none, none, none, none] (by kernel_rfl) ?_
      obtain ⟨c12, h⟩ := chk_some h
      refine dv (.ptr 0 v9.toNat 0) (cy (I0 49 (.iaddr 1 (.t 47) (.t 48)))) (ok_iaddr_o0 (j := v9.toNat) rfl rfl rfl (inB_to c12) (inB_lt c12)) rfl ?_
      obtain ⟨c13, h⟩ := chk_some h
      refine dv (vi (ix v10 v9.toNat)) (cy (I0 50 (.load false 1 (.t 49)))) (ok_load_pm (l := v10) (e := vi) (v := vi (ix v10 v9.toNat)) rfl rfl c13 rfl) rfl ?_
      refine dv (.ptr 0 v9.toNat 0) (cy (I0 51 (.iaddr 1 (.t 37) (.t 38)))) (ok_iaddr_o0 (j := v9.toNat) rfl rfl rfl (inB_to c12) (inB_lt c12)) rfl ?_
      refine de (.undef) [some (.row 1 (List.map vi (List.set v10 v9.toNat (ix v10 ((v9 - 1).toNat))))), some (.row 1 [vi a3]), some (.row 1 [eS 1 vi a4]), some (.row 1 [vi a5]), none, none, none, none, none, none, none, none, none, none, none, none, none, none, none, none] (cy (IN (.store 1 (.t 51) (.t 46)))) (ok_store_m (l := v10) (e := vi) (x' := (ix v10 ((v9 - 1).toNat))) (u := vi (ix v10 ((v9 - 1).toNat))) rfl rfl rfl c13 rfl rfl) rfl rfl rfl ?_
      refine dv (.ptr 0 ((v9 - 1).toNat) 0) (cy (I0 52 (.iaddr 1 (.t 39) (.t 41)))) (ok_iaddr_o0 (j := (v9 - 1).toNat) rfl rfl rfl (inB_to c10) (inB_lt c10)) rfl ?_
      obtain ⟨c14, h⟩ := chk_some h
      refine de (.undef) [some (.row 1 (List.map vi (List.set (List.set v10 v9.toNat (ix v10 ((v9 - 1).toNat))) ((v9 - 1).toNat) (ix v10 v9.toNat)))), some (.row 1 [vi a3]), some (.row 1 [eS 1 vi a4]), some (.row 1 [vi a5]), none, none, none, none, none, none, none, none, none, none, none, none, none, none, none, none, none, none] (cy (IN (.store 1 (.t 52) (.t 50)))) (ok_store_m (l := (List.set v10 v9.toNat (ix v10 ((v9 - 1).toNat)))) (e := vi) (x' := (ix v10 v9.toNat)) (u := vi (ix v10 v9.toNat)) rfl rfl rfl c14 rfl rfl) rfl rfl rfl ?_
      refine RegD.done rfl (by kernel_rfl) (S' := ⟨[(0, .own 0 0 v10.length), (1, vi a1), (2, vi a2), (3, .fn (.func 151) [] [.ptr 1 0 0, .ptr 2 0 0, .ptr 3 0 0]), (8, vi v6), (9, vi v9)], [some (.row 1 (List.map vi (List.set (List.set v10 v9.toNat (ix v10 ((v9 - 1).toNat))) ((v9 - 1).toNat) (ix v10 v9.toNat)))), some (.row 1 [vi a3]), some (.row 1 [eS 1 vi a4]), some (.row 1 [vi a5])]⟩) (sc [0, 1, 2, 3] (by decide) (by kernel_rfl) (obRen_row vi_frz rfl (.cons rfl (.cons rfl (.cons rfl .nil)))) rfl rfl) ?_
      refine TriE.regJ ?_
      refine rn 1 [(0, .own 0 0 v10.length), (1, vi a1), (2, vi a2), (3, .fn (.func 151) [] [.ptr 1 0 0, .ptr 2 0 0, .ptr 3 0 0]), (8, vi v6), (35, vi v9)] [some (.row 1 (List.map vi (List.set (List.set v10 v9.toNat (ix v10 ((v9 - 1).toNat))) ((v9 - 1).toNat) (ix v10 v9.toNat)))), some (.row 1 [vi a3]), some (.row 1 [eS 1 vi a4]), some (.row 1 [vi a5])] ?_
      refine jv (vi (v9 - 1)) (cy (I0 36 (.bin .sub false (.t 35) (.c (.p (.int .i64 1)))))) (r_sub rfl rfl c9) rfl ?_
      refine jq 1 [(0, .own 0 0 v10.length), (1, vi a1), (2, vi a2), (3, .fn (.func 151) [] [.ptr 1 0 0, .ptr 2 0 0, .ptr 3 0 0]), (8, vi v6), (9, vi (v9 - 1))] [some (.row 1 (List.map vi (List.set (List.set v10 v9.toNat (ix v10 ((v9 - 1).toNat))) ((v9 - 1).toNat) (ix v10 v9.toNat)))), some (.row 1 [vi a3]), some (.row 1 [eS 1 vi a4]), some (.row 1 [vi a5])] ?_
      exact Vs.intro (Sees.less (.cons (by simp only [List.length_set]; rfl) (.cons rfl (.cons rfl (.cons rfl (.cons rfl (.cons rfl .nil))))))) ⟨(v9 - 1, (List.set (List.set v10 v9.toNat (ix v10 ((v9 - 1).toNat))) ((v9 - 1).toNat) (ix v10 v9.toNat))), rfl, h⟩
    have h := cond_f h c8
    refine TriE.exit ?_
    exact Vs.intro sy ⟨v10, rfl, h⟩
  have h := cond_f h c2
  refine TriE.exit ?_
  have h := Option.some.inj h
  subst h
  exact DoneS.normal (S' := ⟨[], [some (.row 1 (List.map vi v7)), some (.row 1 [vi a3]), some (.row 1 [eS 1 vi a4]), some (.row 1 [vi a5])]⟩) sy rfl rfl
theorem slices_stableCmpFunc_int_ok (n : Nat) (a0 : List Int) (a1 : Int) (a2 : Int) (a3 : List Int) (a4 : Int) (r : (List Int)) (h : slices_stableCmpFunc_int n a0 a1 a2 a3 a4 = some r) : FnL Tryz.prog 188 [.own 0 0 a0.length, vi a1, .fn (.func 151) [] [.ptr 1 0 0, .ptr 2 0 0, .ptr 3 0 0]] [some (.row 1 (List.map vi a0)), some (.row 1 [vi a2]), some (.row 1 [eS 1 vi a3]), some (.row 1 [vi a4])] (.tup []) [some (.row 1 (List.map vi r)), some (.row 1 [vi a2]), some (.row 1 [eS 1 vi a3]), some (.row 1 [vi a4])] := by
  dsimp only [slices_stableCmpFunc_int] at h
  refine FnL.ofS (ts := []) Tryz.call188 Tryz.func188 rfl rfl (Nat.le_of_ble_eq_true rfl) (Nat.le_of_ble_eq_true rfl) (hall_of (.cons rfl (.cons rfl (.cons rfl (.cons rfl .nil))))) ?_
  refine sr [(0, .own 0 0 a0.length), (1, vi a1), (2, .fn (.func 151) [] [.ptr 1 0 0, .ptr 2 0 0, .ptr 3 0 0]), (6, vi 20)] [some (.row 1 (List.map vi a0)), some (.row 1 [vi a2]), some (.row 1 [eS 1 vi a3]), some (.row 1 [vi a4])] ?_
  refine sr [(0, .own 0 0 a0.length), (1, vi a1), (2, .fn (.func 151) [] [.ptr 1 0 0, .ptr 2 0 0, .ptr 3 0 0]), (6, vi 20), (7, vi 0), (8, vi 20)] [some (.row 1 (List.map vi a0)), some (.row 1 [vi a2]), some (.row 1 [eS 1 vi a3]), some (.row 1 [vi a4])] ?_
  refine TriE.seqK h (fun (t : Int × (List Int)) => match t with | (v6, v7) => St.mk [(0, .own 0 0 v7.length), (1, vi a1), (2, .fn (.func 151) [] [.ptr 1 0 0, .ptr 2 0 0, .ptr 3 0 0]), (6, vi 20), (7, vi v6)] [some (.row 1 (List.map vi v7)), some (.row 1 [vi a2]), some (.row 1 [eS 1 vi a3]), some (.row 1 [vi a4])]) ?_ ?_
  · rintro ⟨v6, v7⟩ h
    refine sj ?_
    refine rn 4 [(0, .own 0 0 v7.length), (1, vi a1), (2, .fn (.func 151) [] [.ptr 1 0 0, .ptr 2 0 0, .ptr 3 0 0]), (6, vi 20), (23, .own 0 0 v7.length), (24, vi v6), (25, vi a1), (26, .fn (.func 151) [] [.ptr 1 0 0, .ptr 2 0 0, .ptr 3 0 0])] [some (.row 1 (List.map vi v7)), some (.row 1 [vi a2]), some (.row 1 [eS 1 vi a3]), some (.row 1 [vi a4])] ?_
    obtain ⟨y8, hy8, h⟩ := bind_some h
    refine RegJ.op (Op1.call (y' := .tup []) (obx := [some (.row 1 (List.map vi v7)), some (.row 1 [vi a2]), some (.row 1 [eS 1 vi a3]), some (.row 1 [vi a4])]) (oby := [some (.row 1 (List.map vi y8)), some (.row 1 [vi a2]), some (.row 1 [eS 1 vi a3]), some (.row 1 [vi a4])]) (ob2 := [some (.row 1 (List.map vi y8)), some (.row 1 [vi a2]), some (.row 1 [eS 1 vi a3]), some (.row 1 [vi a4])]) _ _ (cy (I0 27 (.call 217 [(.t 23), (.t 24), (.t 25), (.t 26)]))) rfl (slices_insertionSortCmpFunc_int_ok n v7 v6 a1 a2 a3 a4 y8 hy8) [0, 1, 2, 3] (by kernel_rfl) (.cons rfl (.cons rfl (.cons rfl (.cons rfl (.cons rfl .nil))))) (by kernel_rfl) (by kernel_rfl) (.same (row_ren vi_frz _ _ _) (.cons rfl (.cons rfl (.cons rfl .nil)))) (by kernel_rfl) (.same (row_ren vi_frz _ _ _) (.cons rfl (.cons rfl (.cons rfl .nil)))) (by kernel_rfl)) ?_
    obtain ⟨c4, h⟩ := chk_some h
    refine RegJ.sees (S' := ⟨[(0, .own 0 0 y8.length), (1, vi a1), (2, .fn (.func 151) [] [.ptr 1 0 0, .ptr 2 0 0, .ptr 3 0 0]), (6, vi 20), (23, .own 0 0 y8.length), (24, vi v6), (25, vi a1), (26, .fn (.func 151) [] [.ptr 1 0 0, .ptr 2 0 0, .ptr 3 0 0]), (27, .tup [])], [some (.row 1 (List.map vi y8)), some (.row 1 [vi a2]), some (.row 1 [eS 1 vi a3]), some (.row 1 [vi a4])]⟩) (Sees.cov (Cov.mk2 (rs := [0, 1, 2, 3]) (by decide) rfl rfl (.cons (.inl (by rw [show v7.length = y8.length from of_decide_eq_true c4]; rfl)) (.cons (.inl rfl) (.cons (.inl rfl) (.cons (.inl rfl) (.cons (.inl (by rw [show v7.length = y8.length from of_decide_eq_true c4]; rfl)) (.cons (.inl rfl) (.cons (.inl rfl) (.cons (.inl rfl) (.cons (.inl rfl) .nil))))))))) (obRen_row vi_frz rfl (.cons rfl (.cons rfl (.cons rfl .nil)))))) ?_
    refine jp [(0, .own 0 0 y8.length), (1, vi a1), (2, .fn (.func 151) [] [.ptr 1 0 0, .ptr 2 0 0, .ptr 3 0 0]), (6, vi 20)] ?_
    refine TriE.block ?_
    refine TriE.loopN h (fun (v9 : Int) => St.mk [(0, .own 0 0 y8.length), (1, vi a1), (2, .fn (.func 151) [] [.ptr 1 0 0, .ptr 2 0 0, .ptr 3 0 0]), (6, vi v9)] [some (.row 1 (List.map vi y8)), some (.row 1 [vi a2]), some (.row 1 [eS 1 vi a3]), some (.row 1 [vi a4])]) rfl ?_
    clear h
    rintro back v9 h
    dsimp only [slices_stableCmpFunc_int_L3] at h
    refine TriE.seq ?_
    refine sr [(0, .own 0 0 y8.length), (1, vi a1), (2, .fn (.func 151) [] [.ptr 1 0 0, .ptr 2 0 0, .ptr 3 0 0]), (6, vi v9), (30, vb (decide (v9 < a1)))] [some (.row 1 (List.map vi y8)), some (.row 1 [vi a2]), some (.row 1 [eS 1 vi a3]), some (.row 1 [vi a4])] ?_
    refine TriE.cond (b := decide (v9 < a1)) rfl (fun c5 => ?_) (fun c5 => ?_)
    · have h := cond_t h c5
      refine TriE.skip ?_
      refine TriE.block ?_
      refine sj ?_
      refine rn 1 [(0, .own 0 0 y8.length), (1, vi a1), (2, .fn (.func 151) [] [.ptr 1 0 0, .ptr 2 0 0, .ptr 3 0 0]), (6, vi v9), (31, vi v9)] [some (.row 1 (List.map vi y8)), some (.row 1 [vi a2]), some (.row 1 [eS 1 vi a3]), some (.row 1 [vi a4])] ?_
      obtain ⟨c6, h⟩ := chk_some h
      refine jv (vi (2 * v9)) (cy (I0 32 (.bin .mul false (.c (.p (.int .i64 2))) (.t 31)))) (r_mul rfl rfl c6) rfl ?_
      refine jq 2 [(0, .own 0 0 y8.length), (1, vi a1), (2, .fn (.func 151) [] [.ptr 1 0 0, .ptr 2 0 0, .ptr 3 0 0]), (6, vi v9), (7, vi 0), (8, vi (2 * v9))] [some (.row 1 (List.map vi y8)), some (.row 1 [vi a2]), some (.row 1 [eS 1 vi a3]), some (.row 1 [vi a4])] ?_
      refine TriE.seqK h (fun (_ : Unit) => St.mk [(0, .own 0 0 y8.length), (1, vi a1), (2, .fn (.func 151) [] [.ptr 1 0 0, .ptr 2 0 0, .ptr 3 0 0]), (6, vi v9), (7, vi 0)] [some (.row 1 (List.map vi y8)), some (.row 1 [vi a2]), some (.row 1 [eS 1 vi a3]), some (.row 1 [vi a4])]) ?_ ?_
      · rintro ⟨⟩ h
        refine TriE.seq ?_
        refine sj ?_
        refine rn 2 [(0, .own 0 0 y8.length), (1, vi a1), (2, .fn (.func 151) [] [.ptr 1 0 0, .ptr 2 0 0, .ptr 3 0 0]), (6, vi v9), (7, vi 0), (49, vi 0), (50, vi v9)] [some (.row 1 (List.map vi y8)), some (.row 1 [vi a2]), some (.row 1 [eS 1 vi a3]), some (.row 1 [vi a4])] ?_
        obtain ⟨c9, h⟩ := chk_some h
        refine jv (vi (0 + v9)) (cy (I0 51 (.bin .add false (.t 49) (.t 50)))) (r_add rfl rfl c9) rfl ?_
        refine jq 1 [(0, .own 0 0 y8.length), (1, vi a1), (2, .fn (.func 151) [] [.ptr 1 0 0, .ptr 2 0 0, .ptr 3 0 0]), (6, vi v9), (7, vi 0), (9, vi (0 + v9))] [some (.row 1 (List.map vi y8)), some (.row 1 [vi a2]), some (.row 1 [eS 1 vi a3]), some (.row 1 [vi a4])] ?_
        refine sr [(0, .own 0 0 y8.length), (1, vi a1), (2, .fn (.func 151) [] [.ptr 1 0 0, .ptr 2 0 0, .ptr 3 0 0]), (6, vi v9), (7, vi 0), (9, vi (0 + v9)), (54, vb (decide ((0 + v9) < a1)))] [some (.row 1 (List.map vi y8)), some (.row 1 [vi a2]), some (.row 1 [eS 1 vi a3]), some (.row 1 [vi a4])] ?_
        refine TriE.cond (b := decide ((0 + v9) < a1)) rfl (fun c10 => ?_) (fun c10 => ?_)
        · have h := cond_t h c10
          refine TriE.regJ ?_
          refine rn 5 [(0, .own 0 0 y8.length), (1, vi a1), (2, .fn (.func 151) [] [.ptr 1 0 0, .ptr 2 0 0, .ptr 3 0 0]), (6, vi v9), (55, .own 0 0 y8.length), (56, vi 0), (57, vi (0 + v9)), (58, vi a1), (59, .fn (.func 151) [] [.ptr 1 0 0, .ptr 2 0 0, .ptr 3 0 0])] [some (.row 1 (List.map vi y8)), some (.row 1 [vi a2]), some (.row 1 [eS 1 vi a3]), some (.row 1 [vi a4])] ?_
          cases h
        have h := cond_f h c10
        refine TriE.skip ?_
        refine TriE.regJ ?_
        refine rn 1 [(0, .own 0 0 y8.length), (1, vi a1), (2, .fn (.func 151) [] [.ptr 1 0 0, .ptr 2 0 0, .ptr 3 0 0]), (61, vi v9)] [some (.row 1 (List.map vi y8)), some (.row 1 [vi a2]), some (.row 1 [eS 1 vi a3]), some (.row 1 [vi a4])] ?_
        obtain ⟨c11, h⟩ := chk_some h
        refine jv (vi (v9 * 2)) (cy (I0 62 (.bin .mul false (.t 61) (.c (.p (.int .i64 2)))))) (r_mul rfl rfl c11) rfl ?_
        refine jq 1 [(0, .own 0 0 y8.length), (1, vi a1), (2, .fn (.func 151) [] [.ptr 1 0 0, .ptr 2 0 0, .ptr 3 0 0]), (6, vi (v9 * 2))] [some (.row 1 (List.map vi y8)), some (.row 1 [vi a2]), some (.row 1 [eS 1 vi a3]), some (.row 1 [vi a4])] ?_
        exact Vs.intro Sees.refl ⟨(v9 * 2), rfl, h⟩
      intro k2 h
      refine TriE.block ?_
      refine TriE.loopN h (fun (_ : Unit) => St.mk [(0, .own 0 0 y8.length), (1, vi a1), (2, .fn (.func 151) [] [.ptr 1 0 0, .ptr 2 0 0, .ptr 3 0 0]), (6, vi v9), (7, vi 0), (8, vi (2 * v9))] [some (.row 1 (List.map vi y8)), some (.row 1 [vi a2]), some (.row 1 [eS 1 vi a3]), some (.row 1 [vi a4])]) rfl ?_
      clear h
      rintro back ⟨⟩ h
      dsimp only [slices_stableCmpFunc_int_L2] at h
      refine TriE.seq ?_
      refine sr [(0, .own 0 0 y8.length), (1, vi a1), (2, .fn (.func 151) [] [.ptr 1 0 0, .ptr 2 0 0, .ptr 3 0 0]), (6, vi v9), (7, vi 0), (8, vi (2 * v9)), (35, vb (decide ((2 * v9) ≤ a1)))] [some (.row 1 (List.map vi y8)), some (.row 1 [vi a2]), some (.row 1 [eS 1 vi a3]), some (.row 1 [vi a4])] ?_
      refine TriE.cond (b := decide ((2 * v9) ≤ a1)) rfl (fun c7 => ?_) (fun c7 => ?_)
      · have h := cond_t h c7
        refine TriE.skip ?_
        refine TriE.block ?_
        refine sj ?_
        refine rn 4 [(0, .own 0 0 y8.length), (1, vi a1), (2, .fn (.func 151) [] [.ptr 1 0 0, .ptr 2 0 0, .ptr 3 0 0]), (6, vi v9), (8, vi (2 * v9)), (36, .own 0 0 y8.length), (37, vi 0), (38, vi 0), (39, vi v9)] [some (.row 1 (List.map vi y8)), some (.row 1 [vi a2]), some (.row 1 [eS 1 vi a3]), some (.row 1 [vi a4])] ?_
        obtain ⟨c8, h⟩ := chk_some h
        refine jv (vi (0 + v9)) (cy (I0 40 (.bin .add false (.t 38) (.t 39)))) (r_add rfl rfl c8) rfl ?_
        refine rn 2 [(0, .own 0 0 y8.length), (1, vi a1), (2, .fn (.func 151) [] [.ptr 1 0 0, .ptr 2 0 0, .ptr 3 0 0]), (6, vi v9), (8, vi (2 * v9)), (36, .own 0 0 y8.length), (37, vi 0), (40, vi (0 + v9)), (41, vi (2 * v9)), (42, .fn (.func 151) [] [.ptr 1 0 0, .ptr 2 0 0, .ptr 3 0 0])] [some (.row 1 (List.map vi y8)), some (.row 1 [vi a2]), some (.row 1 [eS 1 vi a3]), some (.row 1 [vi a4])] ?_
        cases h
      have h := cond_f h c7
      refine TriE.exit ?_
      exact Vs.intro sy ⟨(), rfl, h⟩
    have h := cond_f h c5
    refine TriE.exit ?_
    have h := Option.some.inj h
    subst h
    exact DoneS.normal (S' := ⟨[], [some (.row 1 (List.map vi y8)), some (.row 1 [vi a2]), some (.row 1 [eS 1 vi a3]), some (.row 1 [vi a4])]⟩) sy rfl rfl
  intro k1 h
  refine TriE.block ?_
  refine TriE.sees (S' := ⟨[(0, .own 0 0 a0.length), (1, vi a1), (2, .fn (.func 151) [] [.ptr 1 0 0, .ptr 2 0 0, .ptr 3 0 0]), (6, vi 20), (7, vi 0), (8, vi 20)], [some (.row 1 (List.map vi a0)), some (.row 1 [vi a2]), some (.row 1 [eS 1 vi a3]), some (.row 1 [vi a4])]⟩) sy ?_
  refine TriE.loopN h (fun (t : Int × Nat × (List Int)) => match t with | (v2, v3, v4) => St.mk [(0, .own 0 0 v4.length), (1, vi a1), (2, .fn (.func 151) [] [.ptr 1 0 0, .ptr 2 0 0, .ptr 3 0 0]), (6, vi 20), (7, vi v2), (8, vi v3)] [some (.row 1 (List.map vi v4)), some (.row 1 [vi a2]), some (.row 1 [eS 1 vi a3]), some (.row 1 [vi a4])]) rfl ?_
  clear h
  rintro back ⟨v2, v3, v4⟩ h
  dsimp only [slices_stableCmpFunc_int_L1] at h
  refine TriE.seq ?_
  refine sr [(0, .own 0 0 v4.length), (1, vi a1), (2, .fn (.func 151) [] [.ptr 1 0 0, .ptr 2 0 0, .ptr 3 0 0]), (6, vi 20), (7, vi v2), (8, vi v3), (13, vb (decide ((v3 : Int) ≤ a1)))] [some (.row 1 (List.map vi v4)), some (.row 1 [vi a2]), some (.row 1 [eS 1 vi a3]), some (.row 1 [vi a4])] ?_
  refine TriE.cond (b := decide ((v3 : Int) ≤ a1)) rfl (fun c1 => ?_) (fun c1 => ?_)
  · have h := cond_t h c1
    refine TriE.skip ?_
    refine TriE.block ?_
    refine sj ?_
    refine rn 4 [(0, .own 0 0 v4.length), (1, vi a1), (2, .fn (.func 151) [] [.ptr 1 0 0, .ptr 2 0 0, .ptr 3 0 0]), (6, vi 20), (8, vi v3), (14, .own 0 0 v4.length), (15, vi v2), (16, vi v3), (17, .fn (.func 151) [] [.ptr 1 0 0, .ptr 2 0 0, .ptr 3 0 0])] [some (.row 1 (List.map vi v4)), some (.row 1 [vi a2]), some (.row 1 [eS 1 vi a3]), some (.row 1 [vi a4])] ?_
    obtain ⟨y5, hy5, h⟩ := bind_some h
    refine RegJ.op (Op1.call (y' := .tup []) (obx := [some (.row 1 (List.map vi v4)), some (.row 1 [vi a2]), some (.row 1 [eS 1 vi a3]), some (.row 1 [vi a4])]) (oby := [some (.row 1 (List.map vi y5)), some (.row 1 [vi a2]), some (.row 1 [eS 1 vi a3]), some (.row 1 [vi a4])]) (ob2 := [some (.row 1 (List.map vi y5)), some (.row 1 [vi a2]), some (.row 1 [eS 1 vi a3]), some (.row 1 [vi a4])]) _ _ (cy (I0 18 (.call 217 [(.t 14), (.t 15), (.t 16), (.t 17)]))) rfl (slices_insertionSortCmpFunc_int_ok n v4 v2 (v3 : Int) a2 a3 a4 y5 hy5) [0, 1, 2, 3] (by kernel_rfl) (.cons rfl (.cons rfl (.cons rfl (.cons rfl (.cons rfl .nil))))) (by kernel_rfl) (by kernel_rfl) (.same (row_ren vi_frz _ _ _) (.cons rfl (.cons rfl (.cons rfl .nil)))) (by kernel_rfl) (.same (row_ren vi_frz _ _ _) (.cons rfl (.cons rfl (.cons rfl .nil)))) (by kernel_rfl)) ?_
    obtain ⟨c2, h⟩ := chk_some h
    refine RegJ.sees (S' := ⟨[(0, .own 0 0 y5.length), (1, vi a1), (2, .fn (.func 151) [] [.ptr 1 0 0, .ptr 2 0 0, .ptr 3 0 0]), (6, vi 20), (8, vi v3), (14, .own 0 0 y5.length), (15, vi v2), (16, vi v3), (17, .fn (.func 151) [] [.ptr 1 0 0, .ptr 2 0 0, .ptr 3 0 0]), (18, .tup [])], [some (.row 1 (List.map vi y5)), some (.row 1 [vi a2]), some (.row 1 [eS 1 vi a3]), some (.row 1 [vi a4])]⟩) (Sees.cov (Cov.mk2 (rs := [0, 1, 2, 3]) (by decide) rfl rfl (.cons (.inl (by rw [show v4.length = y5.length from of_decide_eq_true c2]; rfl)) (.cons (.inl rfl) (.cons (.inl rfl) (.cons (.inl rfl) (.cons (.inl rfl) (.cons (.inl (by rw [show v4.length = y5.length from of_decide_eq_true c2]; rfl)) (.cons (.inl rfl) (.cons (.inl rfl) (.cons (.inl rfl) (.cons (.inl rfl) .nil)))))))))) (obRen_row vi_frz rfl (.cons rfl (.cons rfl (.cons rfl .nil)))))) ?_
    refine jp [(0, .own 0 0 y5.length), (1, vi a1), (2, .fn (.func 151) [] [.ptr 1 0 0, .ptr 2 0 0, .ptr 3 0 0]), (6, vi 20), (8, vi v3)] ?_
    refine sr [(0, .own 0 0 y5.length), (1, vi a1), (2, .fn (.func 151) [] [.ptr 1 0 0, .ptr 2 0 0, .ptr 3 0 0]), (6, vi 20), (8, vi v3), (7, vi v3)] [some (.row 1 (List.map vi y5)), some (.row 1 [vi a2]), some (.row 1 [eS 1 vi a3]), some (.row 1 [vi a4])] ?_
    refine TriE.regJ ?_
    refine rn 2 [(0, .own 0 0 y5.length), (1, vi a1), (2, .fn (.func 151) [] [.ptr 1 0 0, .ptr 2 0 0, .ptr 3 0 0]), (6, vi 20), (7, vi v3), (20, vi v3), (21, vi 20)] [some (.row 1 (List.map vi y5)), some (.row 1 [vi a2]), some (.row 1 [eS 1 vi a3]), some (.row 1 [vi a4])] ?_
    obtain ⟨c3, h⟩ := chk_some h
    refine jv (vi ((v3 + 20 : Nat) : Int)) (cy (I0 22 (.bin .add false (.t 20) (.t 21)))) (r_addn (i := v3) (j := 20) rfl rfl c3) rfl ?_
    refine jq 1 [(0, .own 0 0 y5.length), (1, vi a1), (2, .fn (.func 151) [] [.ptr 1 0 0, .ptr 2 0 0, .ptr 3 0 0]), (6, vi 20), (7, vi v3), (8, vi ((v3 + 20 : Nat) : Int))] [some (.row 1 (List.map vi y5)), some (.row 1 [vi a2]), some (.row 1 [eS 1 vi a3]), some (.row 1 [vi a4])] ?_
    exact Vs.intro sy ⟨((v3 : Int), v3 + 20, y5), rfl, h⟩
  have h := cond_f h c1
  refine TriE.exit ?_
  exact Vs.intro sy ⟨(v2, v4), rfl, h⟩
theorem slices_SortStableFunc_int_ok (n : Nat) (a0 : List Int) (a1 : Int) (a2 : List Int) (a3 : Int) (r : (List Int)) (h : slices_SortStableFunc_int n a0 a1 a2 a3 = some r) : FnL Tryz.prog 150 [.own 0 0 a0.length, .fn (.func 151) [] [.ptr 1 0 0, .ptr 2 0 0, .ptr 3 0 0]] [some (.row 1 (List.map vi a0)), some (.row 1 [vi a1]), some (.row 1 [eS 1 vi a2]), some (.row 1 [vi a3])] (.tup []) [some (.row 1 (List.map vi r)), some (.row 1 [vi a1]), some (.row 1 [eS 1 vi a2]), some (.row 1 [vi a3])] := by
  dsimp only [slices_SortStableFunc_int] at h
  refine FnL.ofS (ts := []) Tryz.call150 Tryz.func150 rfl rfl (Nat.le_of_ble_eq_true rfl) (Nat.le_of_ble_eq_true rfl) (hall_of (.cons rfl (.cons rfl (.cons rfl (.cons rfl .nil))))) ?_
  refine TriE.regJ ?_
  refine rn 4 [(4, .own 0 0 a0.length), (6, vi (a0.length : Int)), (7, .fn (.func 151) [] [.ptr 1 0 0, .ptr 2 0 0, .ptr 3 0 0])] [some (.row 1 (List.map vi a0)), some (.row 1 [vi a1]), some (.row 1 [eS 1 vi a2]), some (.row 1 [vi a3])] ?_
  obtain ⟨y1, hy1, h⟩ := bind_some h
  refine RegJ.op (Op1.call (y' := .tup []) (obx := [some (.row 1 (List.map vi a0)), some (.row 1 [vi a1]), some (.row 1 [eS 1 vi a2]), some (.row 1 [vi a3])]) (oby := [some (.row 1 (List.map vi y1)), some (.row 1 [vi a1]), some (.row 1 [eS 1 vi a2]), some (.row 1 [vi a3])]) (ob2 := [some (.row 1 (List.map vi y1)), some (.row 1 [vi a1]), some (.row 1 [eS 1 vi a2]), some (.row 1 [vi a3])]) _ _ (cy (I0 8 (.call 188 [(.t 4), (.t 6), (.t 7)]))) rfl (slices_stableCmpFunc_int_ok n a0 (a0.length : Int) a1 a2 a3 y1 hy1) [0, 1, 2, 3] (by kernel_rfl) (.cons rfl (.cons rfl (.cons rfl (.cons rfl .nil)))) (by kernel_rfl) (by kernel_rfl) (.same (row_ren vi_frz _ _ _) (.cons rfl (.cons rfl (.cons rfl .nil)))) (by kernel_rfl) (.same (row_ren vi_frz _ _ _) (.cons rfl (.cons rfl (.cons rfl .nil)))) (by kernel_rfl)) ?_
  obtain ⟨c1, h⟩ := chk_some h
  refine RegJ.sees (S' := ⟨[(4, .own 0 0 y1.length), (6, vi (a0.length : Int)), (7, .fn (.func 151) [] [.ptr 1 0 0, .ptr 2 0 0, .ptr 3 0 0]), (8, .tup [])], [some (.row 1 (List.map vi y1)), some (.row 1 [vi a1]), some (.row 1 [eS 1 vi a2]), some (.row 1 [vi a3])]⟩) (Sees.cov (Cov.mk2 (rs := [0, 1, 2, 3]) (by decide) rfl rfl (.cons (.inl (by rw [show a0.length = y1.length from of_decide_eq_true c1]; rfl)) (.cons (.inl rfl) (.cons (.inl rfl) (.cons (.inl rfl) .nil)))) (obRen_row vi_frz rfl (.cons rfl (.cons rfl (.cons rfl .nil)))))) ?_
  refine jp [] ?_
  have h := Option.some.inj h
  subst h
  exact DoneS.normal (S' := ⟨[], [some (.row 1 (List.map vi y1)), some (.row 1 [vi a1]), some (.row 1 [eS 1 vi a2]), some (.row 1 [vi a3])]⟩) Sees.refl rfl rfl
theorem restore_Split_ok (n : Nat) (a0 : Int) (a1 : List Int) (r : Int × (List Int)) (h : restore_Split n a0 a1 = some r) : FnL Tryz.prog 84 [vi a0, eS 1 vi a1] [] (.tup [eS 1 vi r.2, vi r.1]) [] := by
  dsimp only [restore_Split] at h
  refine FnL.ofS (ts := [4, 5]) Tryz.call84 Tryz.func84 rfl rfl (Nat.le_of_ble_eq_true rfl) (Nat.le_of_ble_eq_true rfl) (fun j h => absurd h (Nat.not_lt_zero j)) ?_
  refine sr [(2, .ptr 0 0 0), (3, .ptr 1 0 0)] [some (.row 1 [vi a0]), some (.row 1 [eS 1 vi a1])] ?_
  refine TriE.seq ?_
  refine TriE.block ?_
  refine sj ?_
  refine rn 1 [(2, .ptr 0 0 0), (3, .ptr 1 0 0), (17, vi a0)] [some (.row 1 [vi a0]), some (.row 1 [eS 1 vi a1])] ?_
  obtain ⟨y1, hy1, h⟩ := bind_some h
  refine RegJ.op (Op1.call (y' := vb ((decide (0 ≤ a0)) && (decide (a0 ≤ 1000000000000)))) (obx := []) (oby := []) (ob2 := [some (.row 1 [vi a0]), some (.row 1 [eS 1 vi a1])]) _ _ (cy (I0 18 (.call 91 [(.t 17), (.c (.p (.int .i64 0))), (.c (.p (.int .i64 1000000000000)))]))) rfl (restore_within_ok n a0 0 1000000000000 y1 hy1) [] (by kernel_rfl) (.cons rfl (.cons rfl (.cons rfl (.cons rfl .nil)))) (by kernel_rfl) (by kernel_rfl) ObsRen.nil (by kernel_rfl) ObsRen.nil (by kernel_rfl)) ?_
  refine jq 2 [(2, .ptr 0 0 0), (3, .ptr 1 0 0), (16, vb (!((decide (0 ≤ a0)) && (decide (a0 ≤ 1000000000000)))))] [some (.row 1 [vi a0]), some (.row 1 [eS 1 vi a1])] ?_
  refine TriE.cond (b := !((decide (0 ≤ a0)) && (decide (a0 ≤ 1000000000000)))) rfl (fun c1 => ?_) (fun c1 => ?_)
  · have h := cond_t h c1
    refine sr [(4, .emp), (5, vi 2)] [some (.row 1 [vi a0]), some (.row 1 [eS 1 vi a1])] ?_
    refine TriE.ret ?_
    have h := Option.some.inj h
    subst h
    exact DoneS.ret (S' := ⟨[(4, eS 1 vi ([] : List Int)), (5, vi 2)], []⟩) (Sees.trans (Sees.vco (fr' := [(4, eS 1 vi ([] : List Int)), (5, vi 2)]) (.cons .sl (.cons .same .nil))) (sc [] (by decide) (by kernel_rfl) ObRen.nil rfl rfl)) rfl rfl
  have h := cond_f h c1
  refine sj ?_
  refine rn 1 [(2, .ptr 0 0 0), (3, .ptr 1 0 0), (21, eS 1 vi a1)] [some (.row 1 [vi a0]), some (.row 1 [eS 1 vi a1])] ?_
  refine jv (vi (a1.length : Int)) (cy (I0 22 (.len 0 (.t 21)))) (ok_len_m rfl) rfl ?_
  refine jv (vb (decide (a1.length = 0))) (cy (I0 23 (.bin .eql false (.t 22) (.c (.p (.int .i64 0)))))) (n_eql (i := a1.length) (j := 0) rfl rfl) rfl ?_
  refine jq 1 [(2, .ptr 0 0 0), (3, .ptr 1 0 0), (20, vb (decide (a1.length = 0)))] [some (.row 1 [vi a0]), some (.row 1 [eS 1 vi a1])] ?_
  refine TriE.cond (b := decide (a1.length = 0)) rfl (fun c2 => ?_) (fun c2 => ?_)
  · have h := cond_t h c2
    refine sr [(4, .emp), (5, vi 10)] [some (.row 1 [vi a0]), some (.row 1 [eS 1 vi a1])] ?_
    refine TriE.ret ?_
    have h := Option.some.inj h
    subst h
    exact DoneS.ret (S' := ⟨[(4, eS 1 vi ([] : List Int)), (5, vi 10)], []⟩) (Sees.trans (Sees.vco (fr' := [(4, eS 1 vi ([] : List Int)), (5, vi 10)]) (.cons .sl (.cons .same .nil))) (sc [] (by decide) (by kernel_rfl) ObRen.nil rfl rfl)) rfl rfl
  have h := cond_f h c2
  refine sj ?_
  refine rn 1 [(2, .ptr 0 0 0), (3, .ptr 1 0 0), (25, eS 1 vi a1)] [some (.row 1 [vi a0]), some (.row 1 [eS 1 vi a1])] ?_
  refine jv (vi (a1.length : Int)) (cy (I0 26 (.len 0 (.t 25)))) (ok_len_m rfl) rfl ?_
  refine jv (vb (decide (60 < a1.length))) (cy (I0 27 (.bin .gtr false (.t 26) (.c (.p (.int .i64 60)))))) (n_gtr (i := a1.length) (j := 60) rfl rfl) rfl ?_
  refine jq 1 [(2, .ptr 0 0 0), (3, .ptr 1 0 0), (24, vb (decide (60 < a1.length)))] [some (.row 1 [vi a0]), some (.row 1 [eS 1 vi a1])] ?_
  refine TriE.cond (b := decide (60 < a1.length)) rfl (fun c3 => ?_) (fun c3 => ?_)
  · have h := cond_t h c3
    refine sr [(4, .emp), (5, vi 8)] [some (.row 1 [vi a0]), some (.row 1 [eS 1 vi a1])] ?_
    refine TriE.ret ?_
    have h := Option.some.inj h
    subst h
    exact DoneS.ret (S' := ⟨[(4, eS 1 vi ([] : List Int)), (5, vi 8)], []⟩) (Sees.trans (Sees.vco (fr' := [(4, eS 1 vi ([] : List Int)), (5, vi 8)]) (.cons .sl (.cons .same .nil))) (sc [] (by decide) (by kernel_rfl) ObRen.nil rfl rfl)) rfl rfl
  have h := cond_f h c3
  refine sj ?_
  refine rn 1 [(2, .ptr 0 0 0), (3, .ptr 1 0 0), (29, eS 1 vi a1)] [some (.row 1 [vi a0]), some (.row 1 [eS 1 vi a1])] ?_
  obtain ⟨y2, hy2, h⟩ := bind_some h
  refine RegJ.op (Op1.call (y' := vb y2) (obx := []) (oby := []) (ob2 := [some (.row 1 [vi a0]), some (.row 1 [eS 1 vi a1])]) _ _ (cy (I0 30 (.call 126 [(.t 29), (.c (.fn (.func 148) [] []))]))) rfl (slices_ContainsFunc_int_ok n a1 y2 hy2) [] (by kernel_rfl) (.cons rfl (.cons rfl (.cons rfl .nil))) (by kernel_rfl) (by kernel_rfl) ObsRen.nil (by kernel_rfl) ObsRen.nil (by kernel_rfl)) ?_
  refine jq 1 [(2, .ptr 0 0 0), (3, .ptr 1 0 0), (28, vb y2)] [some (.row 1 [vi a0]), some (.row 1 [eS 1 vi a1])] ?_
  refine TriE.cond (b := y2) rfl (fun c4 => ?_) (fun c4 => ?_)
  · have h := cond_t h c4
    refine sr [(4, .emp), (5, vi 2)] [some (.row 1 [vi a0]), some (.row 1 [eS 1 vi a1])] ?_
    refine TriE.ret ?_
    have h := Option.some.inj h
    subst h
    exact DoneS.ret (S' := ⟨[(4, eS 1 vi ([] : List Int)), (5, vi 2)], []⟩) (Sees.trans (Sees.vco (fr' := [(4, eS 1 vi ([] : List Int)), (5, vi 2)]) (.cons .sl (.cons .same .nil))) (sc [] (by decide) (by kernel_rfl) ObRen.nil rfl rfl)) rfl rfl
  have h := cond_f h c4
  refine sj ?_
  refine rn 1 [(2, .ptr 0 0 0), (3, .ptr 1 0 0), (32, eS 1 vi a1)] [some (.row 1 [vi a0]), some (.row 1 [eS 1 vi a1])] ?_
  obtain ⟨y3, hy3, h⟩ := bind_some h
  refine RegJ.op (Op1.call (y' := vi y3) (obx := []) (oby := []) (ob2 := [some (.row 1 [vi a0]), some (.row 1 [eS 1 vi a1])]) _ _ (cy (I0 33 (.call 149 [(.t 32)]))) rfl (slices_Max_int_ok n a1 y3 hy3) [] (by kernel_rfl) (.cons rfl (.cons rfl .nil)) (by kernel_rfl) (by kernel_rfl) ObsRen.nil (by kernel_rfl) ObsRen.nil (by kernel_rfl)) ?_
  refine jq 2 [(2, .ptr 0 0 0), (3, .ptr 1 0 0), (31, vb (y3 == (0 : Int)))] [some (.row 1 [vi a0]), some (.row 1 [eS 1 vi a1])] ?_
  refine TriE.cond (b := (y3 == (0 : Int))) rfl (fun c5 => ?_) (fun c5 => ?_)
  · have h := cond_t h c5
    refine sr [(4, .emp), (5, vi 11)] [some (.row 1 [vi a0]), some (.row 1 [eS 1 vi a1])] ?_
    refine TriE.ret ?_
    have h := Option.some.inj h
    subst h
    exact DoneS.ret (S' := ⟨[(4, eS 1 vi ([] : List Int)), (5, vi 11)], []⟩) (Sees.trans (Sees.vco (fr' := [(4, eS 1 vi ([] : List Int)), (5, vi 11)]) (.cons .sl (.cons .same .nil))) (sc [] (by decide) (by kernel_rfl) ObRen.nil rfl rfl)) rfl rfl
  have h := cond_f h c5
  refine TriE.skip ?_
  refine sr [(2, .ptr 0 0 0), (3, .ptr 1 0 0), (6, .ptr 2 0 0)] [some (.row 1 [vi a0]), some (.row 1 [eS 1 vi a1]), some (.row 1 [vi 0])] ?_
  refine TriE.seqK h (fun (v6 : Int) => St.mk [(2, .ptr 0 0 0), (3, .ptr 1 0 0), (6, .ptr 2 0 0)] [some (.row 1 [vi a0]), some (.row 1 [eS 1 vi a1]), some (.row 1 [vi v6])]) ?_ ?_
  · rintro v6 h
    refine TriE.seq ?_
    refine TriE.sees (Sees.less (fr' := [(2, .ptr 0 0 0), (3, .ptr 1 0 0), (6, .ptr 2 0 0)]) (.cons rfl (.cons rfl (.cons rfl .nil)))) ?_
    refine TriE.draw (by kernel_rfl) ?_
    refine RegD.run 1 [(45, eS 1 vi a1), (2, .ptr 0 0 0), (3, .ptr 1 0 0), (6, .ptr 2 0 0)] [some (.row 1 [vi a0]), some (.row 1 [eS 1 vi a1]), some (.row 1 [vi v6]), none] (by kernel_rfl) ?_
    refine dv (vi (a1.length : Int)) (cy (I0 46 (.len 0 (.t 45)))) (ok_len_m rfl) rfl ?_
    obtain ⟨c9, h⟩ := chk_some h
    refine de (.own 5 0 ((List.replicate a1.length (0 : Int)).length)) [some (.row 1 [vi a0]), some (.row 1 [eS 1 vi a1]), some (.row 1 [vi v6]), none, none, some (.row 1 (List.map vi (List.replicate a1.length (0 : Int))))] (cy (I0 47 (.mkslice 1 8 (.p (.int .i64 0)) (.t 46) (.t 46)))) (ok_mkslice_n (e := vi) (v0 := (0 : Int)) (j := a1.length) rfl rfl rfl rfl rfl rfl c9) rfl rfl rfl ?_
    refine RegD.run 1 [(48, eS 1 vi a1), (47, .own 5 0 ((List.replicate a1.length (0 : Int)).length)), (46, vi (a1.length : Int)), (45, eS 1 vi a1), (2, .ptr 0 0 0), (3, .ptr 1 0 0), (6, .ptr 2 0 0)] [some (.row 1 [vi a0]), some (.row 1 [eS 1 vi a1]), some (.row 1 [vi v6]), none, none, some (.row 1 (List.map vi (List.replicate a1.length (0 : Int)))), none] (by kernel_rfl) ?_
    refine dv (vi (a1.length : Int)) (cy (I0 49 (.len 0 (.t 48)))) (ok_len_m rfl) rfl ?_
    refine de (.own 8 0 ((List.replicate a1.length (0 : Int)).length)) [some (.row 1 [vi a0]), some (.row 1 [eS 1 vi a1]), some (.row 1 [vi v6]), none, none, some (.row 1 (List.map vi (List.replicate a1.length (0 : Int)))), none, none, some (.row 1 (List.map vi (List.replicate a1.length (0 : Int))))] (cy (I0 50 (.mkslice 1 8 (.p (.int .i64 0)) (.t 49) (.t 49)))) (ok_mkslice_n (e := vi) (v0 := (0 : Int)) (j := a1.length) rfl rfl rfl rfl rfl rfl c9) rfl rfl rfl ?_
    refine RegD.run 4 [(11, vi a0), (10, .own 8 0 ((List.replicate a1.length (0 : Int)).length)), (9, .own 5 0 ((List.replicate a1.length (0 : Int)).length)), (51, vi a0), (50, .own 8 0 ((List.replicate a1.length (0 : Int)).length)), (49, vi (a1.length : Int)), (48, eS 1 vi a1), (47, .own 5 0 ((List.replicate a1.length (0 : Int)).length)), (46, vi (a1.length : Int)), (45, eS 1 vi a1), (2, .ptr 0 0 0), (3, .ptr 1 0 0), (6, .ptr 2 0 0)] [some (.row 1 [vi a0]), some (.row 1 [eS 1 vi a1]), some (.row 1 [vi v6]), none, none, some (.row 1 (List.map vi (List.replicate a1.length (0 : Int)))), none, none, some (.row 1 (List.map vi (List.replicate a1.length (0 : Int)))), none, none, none, none] (by kernel_rfl) ?_
    refine RegD.done rfl (by kernel_rfl) (S' := ⟨[(2, .ptr 0 0 0), (3, .ptr 1 0 0), (6, .ptr 2 0 0), (9, .own 3 0 ((List.replicate a1.length (0 : Int)).length)), (10, .own 4 0 ((List.replicate a1.length (0 : Int)).length)), (11, vi a0)], [some (.row 1 [vi a0]), some (.row 1 [eS 1 vi a1]), some (.row 1 [vi v6]), some (.row 1 (List.map vi (List.replicate a1.length (0 : Int)))), some (.row 1 (List.map vi (List.replicate a1.length (0 : Int))))]⟩) (sc [0, 1, 2, 5, 8] (by decide) (by kernel_rfl) (.cons rfl (.cons rfl (.cons rfl (obRen_row vi_frz rfl (obRen_row vi_frz rfl .nil))))) rfl rfl) ?_
    refine TriE.seqK h (fun (t : Int × (List Int) × (List Int)) => match t with | (v11, v12, v13) => St.mk [(2, .ptr 0 0 0), (3, .ptr 1 0 0), (6, .ptr 2 0 0), (9, .own 3 0 v13.length), (10, .own 4 0 v12.length), (11, vi v11)] [some (.row 1 [vi a0]), some (.row 1 [eS 1 vi a1]), some (.row 1 [vi v6]), some (.row 1 (List.map vi v13)), some (.row 1 (List.map vi v12))]) ?_ ?_
    · rintro ⟨v11, v12, v13⟩ h
      refine sj ?_
      refine rn 2 [(9, .own 3 0 v13.length), (10, .own 4 0 v12.length), (11, vi v11), (78, .own 4 0 v12.length), (79, .fn (.func 151) [] [.ptr 0 0 0, .ptr 1 0 0, .ptr 2 0 0])] [some (.row 1 [vi a0]), some (.row 1 [eS 1 vi a1]), some (.row 1 [vi v6]), some (.row 1 (List.map vi v13)), some (.row 1 (List.map vi v12))] ?_
      obtain ⟨y14, hy14, h⟩ := bind_some h
      refine RegJ.op (Op1.call (y' := .tup []) (obx := [some (.row 1 (List.map vi v12)), some (.row 1 [vi a0]), some (.row 1 [eS 1 vi a1]), some (.row 1 [vi v6])]) (oby := [some (.row 1 (List.map vi y14)), some (.row 1 [vi a0]), some (.row 1 [eS 1 vi a1]), some (.row 1 [vi v6])]) (ob2 := [some (.row 1 [vi a0]), some (.row 1 [eS 1 vi a1]), some (.row 1 [vi v6]), some (.row 1 (List.map vi v13)), some (.row 1 (List.map vi y14))]) _ _ (cy (I0 80 (.call 150 [(.t 78), (.t 79)]))) rfl (slices_SortStableFunc_int_ok n v12 a0 a1 v6 y14 hy14) [4, 0, 1, 2] (by kernel_rfl) (.cons rfl (.cons rfl (.cons rfl .nil))) (by kernel_rfl) (by kernel_rfl) (.same (row_ren vi_frz _ _ _) (.cons rfl (.cons rfl (.cons rfl .nil)))) (by kernel_rfl) (.same (row_ren vi_frz _ _ _) (.cons rfl (.cons rfl (.cons rfl .nil)))) (by kernel_rfl)) ?_
      obtain ⟨c18, h⟩ := chk_some h
      refine RegJ.sees (S' := ⟨[(9, .own 3 0 v13.length), (10, .own 4 0 y14.length), (11, vi v11), (78, .own 4 0 y14.length), (79, .fn (.func 151) [] [.ptr 0 0 0, .ptr 1 0 0, .ptr 2 0 0]), (80, .tup [])], [some (.row 1 [vi a0]), some (.row 1 [eS 1 vi a1]), some (.row 1 [vi v6]), some (.row 1 (List.map vi v13)), some (.row 1 (List.map vi y14))]⟩) (Sees.cov (Cov.mk2 (rs := [0, 1, 2, 3, 4]) (by decide) rfl rfl (.cons (.inl rfl) (.cons (.inl (by rw [show v12.length = y14.length from of_decide_eq_true c18]; rfl)) (.cons (.inl rfl) (.cons (.inl (by rw [show v12.length = y14.length from of_decide_eq_true c18]; rfl)) (.cons (.inl rfl) (.cons (.inl rfl) .nil)))))) (.cons rfl (.cons rfl (.cons rfl (obRen_row vi_frz rfl (obRen_row vi_frz rfl .nil))))))) ?_
      refine jp [(9, .own 3 0 v13.length), (10, .own 4 0 y14.length), (11, vi v11)] ?_
      refine TriE.seqK h (fun (v17 : (List Int)) => St.mk [(9, .own 0 0 v17.length)] [some (.row 1 (List.map vi v17))]) ?_ ?_
      · rintro v17 h
        refine sr [(4, .own 0 0 v17.length), (5, vi 0)] [some (.row 1 (List.map vi v17))] ?_
        refine TriE.ret ?_
        have h := Option.some.inj h
        subst h
        exact DoneS.ret (S' := ⟨[(4, eS 1 vi v17), (5, vi 0)], []⟩) (Sees.trans (Sees.freeze 0 (fr' := [(4, eS 1 vi v17), (5, vi 0)]) (ob' := [none]) rfl (frz_row vi_frzE _) (.cons (frz_full rfl) (.cons (.refl _) .nil)) rfl) (sc [] (by decide) (by kernel_rfl) ObRen.nil rfl rfl)) rfl rfl
      intro k3 h
      refine sj ?_
      refine rn 2 [(9, .own 3 0 v13.length), (81, .own 4 0 y14.length), (82, vi v11)] [some (.row 1 [vi a0]), some (.row 1 [eS 1 vi a1]), some (.row 1 [vi v6]), some (.row 1 (List.map vi v13)), some (.row 1 (List.map vi y14))] ?_
      obtain ⟨c19, h⟩ := chk_some h
      refine jv (.own 4 0 v11.toNat) (cy (I0 83 (.slc 1 (.t 81) none (some (.t 82)) none))) (ok_slco_hi (j := v11.toNat) rfl rfl rfl (inC_to c19) (inC_le c19)) rfl ?_
      refine jq 2 [(9, .own 3 0 v13.length), (83, .own 4 0 v11.toNat), (84, vi ((v11.toNat : Nat) : Int)), (85, vi 0)] [some (.row 1 [vi a0]), some (.row 1 [eS 1 vi a1]), some (.row 1 [vi v6]), some (.row 1 (List.map vi v13)), some (.row 1 (List.map vi y14))] ?_
      refine TriE.block ?_
      refine TriE.sees (S' := ⟨[(9, .own 0 0 v13.length), (83, .own 1 0 v11.toNat), (84, vi ((v11.toNat : Nat) : Int)), (85, vi 0)], [some (.row 1 (List.map vi v13)), some (.row 1 (List.map vi y14))]⟩) (sc [3, 4] (by decide) (by kernel_rfl) (obRen_row vi_frz rfl (obRen_row vi_frz rfl .nil)) rfl rfl) ?_
      refine TriE.loopN h (fun (t : Nat × (List Int)) => match t with | (v15, v16) => St.mk [(9, .own 0 0 v16.length), (83, .own 1 0 v11.toNat), (84, vi ((v11.toNat : Nat) : Int)), (85, vi v15)] [some (.row 1 (List.map vi v16)), some (.row 1 (List.map vi y14))]) rfl ?_
      clear h
      rintro back ⟨v15, v16⟩ h
      dsimp only [restore_Split_L3] at h
      refine sj ?_
      refine jv (vb (decide (v15 < v11.toNat))) (cy (I0 86 (.bin .lss false (.t 85) (.t 84)))) (n_lss (i := v15) (j := v11.toNat) rfl rfl) rfl ?_
      refine jp [(9, .own 0 0 v16.length), (83, .own 1 0 v11.toNat), (84, vi ((v11.toNat : Nat) : Int)), (85, vi v15), (86, vb (decide (v15 < v11.toNat)))] ?_
      refine TriE.seq ?_
      refine TriE.cond (b := decide (v15 < v11.toNat)) rfl (fun c20 => ?_) (fun c20 => ?_)
      · have h := cond_t h c20
        refine TriE.skip ?_
        refine TriE.seq ?_
        refine TriE.block ?_
        refine sj ?_
        refine jv (.ptr 1 v15 0) (cy (I0 87 (.iaddr 1 (.t 83) (.t 85)))) (ok_iaddr_o0 (j := v15) rfl rfl rfl rfl c20) rfl ?_
        obtain ⟨c21, h⟩ := chk_some h
        refine jv (vi (ix y14 v15)) (cy (I0 88 (.load false 1 (.t 87)))) (ok_load_pm (l := y14) (e := vi) (v := vi (ix y14 v15)) rfl rfl c21 rfl) rfl ?_
        refine jq 1 [(9, .own 0 0 v16.length), (83, .own 1 0 v11.toNat), (84, vi ((v11.toNat : Nat) : Int)), (85, vi v15), (15, vi (ix y14 v15))] [some (.row 1 (List.map vi v16)), some (.row 1 (List.map vi y14))] ?_
        refine TriE.regJ ?_
        refine rn 2 [(9, .own 0 0 v16.length), (83, .own 1 0 v11.toNat), (84, vi ((v11.toNat : Nat) : Int)), (85, vi v15), (89, .own 0 0 v16.length), (90, vi (ix y14 v15))] [some (.row 1 (List.map vi v16)), some (.row 1 (List.map vi y14))] ?_
        obtain ⟨c22, h⟩ := chk_some h
        refine jv (.ptr 0 ((ix y14 v15).toNat) 0) (cy (I0 91 (.iaddr 1 (.t 89) (.t 90)))) (ok_iaddr_o0 (j := (ix y14 v15).toNat) rfl rfl rfl (inB_to c22) (inB_lt c22)) rfl ?_
        obtain ⟨c23, h⟩ := chk_some h
        refine jv (vi (ix v16 ((ix y14 v15).toNat))) (cy (I0 92 (.load false 1 (.t 91)))) (ok_load_pm (l := v16) (e := vi) (v := vi (ix v16 ((ix y14 v15).toNat))) rfl rfl c23 rfl) rfl ?_
        obtain ⟨c24, h⟩ := chk_some h
        refine jv (vi ((ix v16 ((ix y14 v15).toNat)) + 1)) (cy (I0 93 (.bin .add false (.t 92) (.c (.p (.int .i64 1)))))) (r_add rfl rfl c24) rfl ?_
        refine jv (.ptr 0 ((ix y14 v15).toNat) 0) (cy (I0 94 (.iaddr 1 (.t 89) (.t 90)))) (ok_iaddr_o0 (j := (ix y14 v15).toNat) rfl rfl rfl (inB_to c22) (inB_lt c22)) rfl ?_
        refine je (.undef) [some (.row 1 (List.map vi (List.set v16 ((ix y14 v15).toNat) ((ix v16 ((ix y14 v15).toNat)) + 1)))), some (.row 1 (List.map vi y14))] (cy (IN (.store 1 (.t 94) (.t 93)))) (ok_store_m (l := v16) (e := vi) (x' := (ix v16 ((ix y14 v15).toNat)) + 1) (u := vi ((ix v16 ((ix y14 v15).toNat)) + 1)) rfl rfl rfl c23 rfl rfl) rfl rfl rfl ?_
        refine jp [(9, .own 0 0 v16.length), (83, .own 1 0 v11.toNat), (84, vi ((v11.toNat : Nat) : Int)), (85, vi v15)] ?_
        refine TriE.regJ ?_
        obtain ⟨c25, h⟩ := chk_some h
        refine jv (vi ((v15 + 1 : Nat) : Int)) (cy (I0 95 (.bin .add false (.t 85) (.c (.p (.int .i64 1)))))) (r_addn (i := v15) (j := 1) rfl rfl c25) rfl ?_
        refine jq 1 [(9, .own 0 0 v16.length), (83, .own 1 0 v11.toNat), (84, vi ((v11.toNat : Nat) : Int)), (85, vi ((v15 + 1 : Nat) : Int))] [some (.row 1 (List.map vi (List.set v16 ((ix y14 v15).toNat) ((ix v16 ((ix y14 v15).toNat)) + 1)))), some (.row 1 (List.map vi y14))] ?_
        exact Vs.intro (Sees.less (.cons (by simp only [List.length_set]; rfl) (.cons rfl (.cons rfl (.cons rfl .nil))))) ⟨(v15 + 1, (List.set v16 ((ix y14 v15).toNat) ((ix v16 ((ix y14 v15).toNat)) + 1))), rfl, h⟩
      have h := cond_f h c20
      refine TriE.exit ?_
      exact Vs.intro (sc [0] (by decide) (by kernel_rfl) (obRen_row vi_frz rfl .nil) rfl rfl) ⟨v16, rfl, h⟩
    intro k2 h
    refine sj ?_
    refine rn 1 [(2, .ptr 0 0 0), (3, .ptr 1 0 0), (6, .ptr 2 0 0), (9, .own 3 0 ((List.replicate a1.length (0 : Int)).length)), (10, .own 4 0 ((List.replicate a1.length (0 : Int)).length)), (11, vi a0), (52, eS 1 vi a1)] [some (.row 1 [vi a0]), some (.row 1 [eS 1 vi a1]), some (.row 1 [vi v6]), some (.row 1 (List.map vi (List.replicate a1.length (0 : Int)))), some (.row 1 (List.map vi (List.replicate a1.length (0 : Int))))] ?_
    refine jv (vi (a1.length : Int)) (cy (I0 53 (.len 0 (.t 52)))) (ok_len_m rfl) rfl ?_
    refine jq 1 [(2, .ptr 0 0 0), (3, .ptr 1 0 0), (6, .ptr 2 0 0), (9, .own 3 0 ((List.replicate a1.length (0 : Int)).length)), (10, .own 4 0 ((List.replicate a1.length (0 : Int)).length)), (11, vi a0), (52, eS 1 vi a1), (53, vi (a1.length : Int)), (54, vi 0)] [some (.row 1 [vi a0]), some (.row 1 [eS 1 vi a1]), some (.row 1 [vi v6]), some (.row 1 (List.map vi (List.replicate a1.length (0 : Int)))), some (.row 1 (List.map vi (List.replicate a1.length (0 : Int))))] ?_
    refine TriE.block ?_
    refine TriE.sees (S' := ⟨[(2, .ptr 0 0 0), (3, .ptr 1 0 0), (6, .ptr 2 0 0), (9, .own 3 0 (List.replicate a1.length (0 : Int)).length), (10, .own 4 0 (List.replicate a1.length (0 : Int)).length), (11, vi a0), (52, eS 1 vi a1), (53, vi (a1.length : Int)), (54, vi 0)], [some (.row 1 [vi a0]), some (.row 1 [eS 1 vi a1]), some (.row 1 [vi v6]), some (.row 1 (List.map vi (List.replicate a1.length (0 : Int)))), some (.row 1 (List.map vi (List.replicate a1.length (0 : Int))))]⟩) sy ?_
    refine TriE.loopN h (fun (t : Int × Nat × (List Int) × (List Int)) => match t with | (v7, v8, v9, v10) => St.mk [(2, .ptr 0 0 0), (3, .ptr 1 0 0), (6, .ptr 2 0 0), (9, .own 3 0 v10.length), (10, .own 4 0 v9.length), (11, vi v7), (52, eS 1 vi a1), (53, vi (a1.length : Int)), (54, vi v8)] [some (.row 1 [vi a0]), some (.row 1 [eS 1 vi a1]), some (.row 1 [vi v6]), some (.row 1 (List.map vi v10)), some (.row 1 (List.map vi v9))]) rfl ?_
    clear h
    rintro back ⟨v7, v8, v9, v10⟩ h
    dsimp only [restore_Split_L2] at h
    refine sj ?_
    refine jv (vb (decide (v8 < a1.length))) (cy (I0 55 (.bin .lss false (.t 54) (.t 53)))) (n_lss (i := v8) (j := a1.length) rfl rfl) rfl ?_
    refine jp [(2, .ptr 0 0 0), (3, .ptr 1 0 0), (6, .ptr 2 0 0), (9, .own 3 0 v10.length), (10, .own 4 0 v9.length), (11, vi v7), (52, eS 1 vi a1), (53, vi (a1.length : Int)), (54, vi v8), (55, vb (decide (v8 < a1.length)))] ?_
    refine TriE.seq ?_
    refine TriE.cond (b := decide (v8 < a1.length)) rfl (fun c10 => ?_) (fun c10 => ?_)
    · have h := cond_t h c10
      refine TriE.skip ?_
      refine TriE.seq ?_
      refine TriE.block ?_
      refine sj ?_
      refine rn 1 [(2, .ptr 0 0 0), (3, .ptr 1 0 0), (6, .ptr 2 0 0), (9, .own 3 0 v10.length), (10, .own 4 0 v9.length), (11, vi v7), (52, eS 1 vi a1), (53, vi (a1.length : Int)), (54, vi v8), (56, vi v8)] [some (.row 1 [vi a0]), some (.row 1 [eS 1 vi a1]), some (.row 1 [vi v6]), some (.row 1 (List.map vi v10)), some (.row 1 (List.map vi v9))] ?_
      refine jv (.fptr 1 (List.map vi a1) v8 0) (cy (I0 57 (.iaddr 1 (.t 52) (.t 54)))) (ok_iaddr_m (j := v8) rfl rfl rfl c10) rfl ?_
      refine jv (vi (ix a1 v8)) (cy (I0 58 (.load false 1 (.t 57)))) (ok_load_fm (v := vi (ix a1 v8)) rfl c10 rfl) rfl ?_
      refine jq 2 [(2, .ptr 0 0 0), (3, .ptr 1 0 0), (6, .ptr 2 0 0), (9, .own 3 0 v10.length), (10, .own 4 0 v9.length), (11, vi v7), (52, eS 1 vi a1), (53, vi (a1.length : Int)), (54, vi v8), (12, vi v8), (13, vi (ix a1 v8))] [some (.row 1 [vi a0]), some (.row 1 [eS 1 vi a1]), some (.row 1 [vi v6]), some (.row 1 (List.map vi v10)), some (.row 1 (List.map vi v9))] ?_
      refine sj ?_
      refine rn 6 [(2, .ptr 0 0 0), (3, .ptr 1 0 0), (6, .ptr 2 0 0), (9, .own 3 0 v10.length), (10, .own 4 0 v9.length), (11, vi v7), (52, eS 1 vi a1), (53, vi (a1.length : Int)), (54, vi v8), (12, vi v8), (59, .own 3 0 v10.length), (60, vi v8), (61, .own 4 0 v9.length), (62, vi v8), (63, vi a0), (64, vi (ix a1 v8))] [some (.row 1 [vi a0]), some (.row 1 [eS 1 vi a1]), some (.row 1 [vi v6]), some (.row 1 (List.map vi v10)), some (.row 1 (List.map vi v9))] ?_
      obtain ⟨c11, h⟩ := chk_some h
      refine jv (vi (a0 * (ix a1 v8))) (cy (I0 65 (.bin .mul false (.t 63) (.t 64)))) (r_mul rfl rfl c11) rfl ?_
      refine rn 1 [(2, .ptr 0 0 0), (3, .ptr 1 0 0), (6, .ptr 2 0 0), (9, .own 3 0 v10.length), (10, .own 4 0 v9.length), (11, vi v7), (52, eS 1 vi a1), (53, vi (a1.length : Int)), (54, vi v8), (12, vi v8), (59, .own 3 0 v10.length), (60, vi v8), (61, .own 4 0 v9.length), (62, vi v8), (65, vi (a0 * (ix a1 v8))), (66, vi v6)] [some (.row 1 [vi a0]), some (.row 1 [eS 1 vi a1]), some (.row 1 [vi v6]), some (.row 1 (List.map vi v10)), some (.row 1 (List.map vi v9))] ?_
      obtain ⟨c12, h⟩ := chk_some h
      refine jv (vi (Int.tdiv (a0 * (ix a1 v8)) v6)) (cy (I0 67 (.bin .quo false (.t 65) (.t 66)))) (r_quo rfl rfl c12) rfl ?_
      refine rn 1 [(2, .ptr 0 0 0), (3, .ptr 1 0 0), (6, .ptr 2 0 0), (9, .own 3 0 v10.length), (10, .own 4 0 v9.length), (11, vi v7), (52, eS 1 vi a1), (53, vi (a1.length : Int)), (54, vi v8), (12, vi v8), (59, .own 3 0 v10.length), (60, vi v8), (61, .own 4 0 v9.length), (62, vi v8), (67, vi (Int.tdiv (a0 * (ix a1 v8)) v6)), (68, vi v8)] [some (.row 1 [vi a0]), some (.row 1 [eS 1 vi a1]), some (.row 1 [vi v6]), some (.row 1 (List.map vi v10)), some (.row 1 (List.map vi v9))] ?_
      obtain ⟨c13, h⟩ := chk_some h
      refine jv (.ptr 3 v8 0) (cy (I0 69 (.iaddr 1 (.t 59) (.t 60)))) (ok_iaddr_o0 (j := v8) rfl rfl rfl rfl c13) rfl ?_
      refine je (.undef) [some (.row 1 [vi a0]), some (.row 1 [eS 1 vi a1]), some (.row 1 [vi v6]), some (.row 1 (List.map vi (List.set v10 v8 (Int.tdiv (a0 * (ix a1 v8)) v6)))), some (.row 1 (List.map vi v9))] (cy (IN (.store 1 (.t 69) (.t 67)))) (ok_store_m (l := v10) (e := vi) (x' := Int.tdiv (a0 * (ix a1 v8)) v6) (u := vi (Int.tdiv (a0 * (ix a1 v8)) v6)) rfl rfl rfl c13 rfl rfl) rfl rfl rfl ?_
      obtain ⟨c14, h⟩ := chk_some h
      refine jv (.ptr 4 v8 0) (cy (I0 70 (.iaddr 1 (.t 61) (.t 62)))) (ok_iaddr_o0 (j := v8) rfl rfl rfl rfl c14) rfl ?_
      refine je (.undef) [some (.row 1 [vi a0]), some (.row 1 [eS 1 vi a1]), some (.row 1 [vi v6]), some (.row 1 (List.map vi (List.set v10 v8 (Int.tdiv (a0 * (ix a1 v8)) v6)))), some (.row 1 (List.map vi (List.set v9 v8 (v8 : Int))))] (cy (IN (.store 1 (.t 70) (.t 68)))) (ok_store_m (l := v9) (e := vi) (x' := (v8 : Int)) (u := vi v8) rfl rfl rfl c14 rfl rfl) rfl rfl rfl ?_
      refine jp [(2, .ptr 0 0 0), (3, .ptr 1 0 0), (6, .ptr 2 0 0), (9, .own 3 0 v10.length), (10, .own 4 0 v9.length), (11, vi v7), (52, eS 1 vi a1), (53, vi (a1.length : Int)), (54, vi v8), (12, vi v8)] ?_
      refine TriE.regJ ?_
      refine rn 3 [(2, .ptr 0 0 0), (3, .ptr 1 0 0), (6, .ptr 2 0 0), (9, .own 3 0 v10.length), (10, .own 4 0 v9.length), (52, eS 1 vi a1), (53, vi (a1.length : Int)), (54, vi v8), (71, vi v7), (72, .own 3 0 v10.length), (73, vi v8)] [some (.row 1 [vi a0]), some (.row 1 [eS 1 vi a1]), some (.row 1 [vi v6]), some (.row 1 (List.map vi (List.set v10 v8 (Int.tdiv (a0 * (ix a1 v8)) v6)))), some (.row 1 (List.map vi (List.set v9 v8 (v8 : Int))))] ?_
      refine jv (.ptr 3 v8 0) (cy (I0 74 (.iaddr 1 (.t 72) (.t 73)))) (ok_iaddr_o0 (j := v8) rfl rfl rfl rfl c13) rfl ?_
      obtain ⟨c15, h⟩ := chk_some h
      refine jv (vi (ix (List.set v10 v8 (Int.tdiv (a0 * (ix a1 v8)) v6)) v8)) (cy (I0 75 (.load false 1 (.t 74)))) (ok_load_pm (l := (List.set v10 v8 (Int.tdiv (a0 * (ix a1 v8)) v6))) (e := vi) (v := vi (ix (List.set v10 v8 (Int.tdiv (a0 * (ix a1 v8)) v6)) v8)) rfl rfl c15 rfl) rfl ?_
      obtain ⟨c16, h⟩ := chk_some h
      refine jv (vi (v7 - (ix (List.set v10 v8 (Int.tdiv (a0 * (ix a1 v8)) v6)) v8))) (cy (I0 76 (.bin .sub false (.t 71) (.t 75)))) (r_sub rfl rfl c16) rfl ?_
      refine jq 1 [(2, .ptr 0 0 0), (3, .ptr 1 0 0), (6, .ptr 2 0 0), (9, .own 3 0 v10.length), (10, .own 4 0 v9.length), (52, eS 1 vi a1), (53, vi (a1.length : Int)), (54, vi v8), (11, vi (v7 - (ix (List.set v10 v8 (Int.tdiv (a0 * (ix a1 v8)) v6)) v8)))] [some (.row 1 [vi a0]), some (.row 1 [eS 1 vi a1]), some (.row 1 [vi v6]), some (.row 1 (List.map vi (List.set v10 v8 (Int.tdiv (a0 * (ix a1 v8)) v6)))), some (.row 1 (List.map vi (List.set v9 v8 (v8 : Int))))] ?_
      refine TriE.regJ ?_
      obtain ⟨c17, h⟩ := chk_some h
      refine jv (vi ((v8 + 1 : Nat) : Int)) (cy (I0 77 (.bin .add false (.t 54) (.c (.p (.int .i64 1)))))) (r_addn (i := v8) (j := 1) rfl rfl c17) rfl ?_
      refine jq 1 [(2, .ptr 0 0 0), (3, .ptr 1 0 0), (6, .ptr 2 0 0), (9, .own 3 0 v10.length), (10, .own 4 0 v9.length), (52, eS 1 vi a1), (53, vi (a1.length : Int)), (11, vi (v7 - (ix (List.set v10 v8 (Int.tdiv (a0 * (ix a1 v8)) v6)) v8))), (54, vi ((v8 + 1 : Nat) : Int))] [some (.row 1 [vi a0]), some (.row 1 [eS 1 vi a1]), some (.row 1 [vi v6]), some (.row 1 (List.map vi (List.set v10 v8 (Int.tdiv (a0 * (ix a1 v8)) v6)))), some (.row 1 (List.map vi (List.set v9 v8 (v8 : Int))))] ?_
      exact Vs.intro (Sees.less (.cons rfl (.cons rfl (.cons rfl (.cons (by simp only [List.length_set]; rfl) (.cons (by simp only [List.length_set]; rfl) (.cons rfl (.cons rfl (.cons rfl (.cons rfl .nil)))))))))) ⟨(v7 - (ix (List.set v10 v8 (Int.tdiv (a0 * (ix a1 v8)) v6)) v8), v8 + 1, (List.set v9 v8 (v8 : Int)), (List.set v10 v8 (Int.tdiv (a0 * (ix a1 v8)) v6))), rfl, h⟩
    have h := cond_f h c10
    refine TriE.exit ?_
    exact Vs.intro sy ⟨(v7, v9, v10), rfl, h⟩
  intro k1 h
  refine sj ?_
  refine rn 1 [(2, .ptr 0 0 0), (3, .ptr 1 0 0), (6, .ptr 2 0 0), (35, eS 1 vi a1)] [some (.row 1 [vi a0]), some (.row 1 [eS 1 vi a1]), some (.row 1 [vi 0])] ?_
  refine jv (vi (a1.length : Int)) (cy (I0 36 (.len 0 (.t 35)))) (ok_len_m rfl) rfl ?_
  refine jq 1 [(2, .ptr 0 0 0), (3, .ptr 1 0 0), (6, .ptr 2 0 0), (35, eS 1 vi a1), (36, vi (a1.length : Int)), (37, vi 0)] [some (.row 1 [vi a0]), some (.row 1 [eS 1 vi a1]), some (.row 1 [vi 0])] ?_
  refine TriE.block ?_
  refine TriE.sees (S' := ⟨[(2, .ptr 0 0 0), (3, .ptr 1 0 0), (6, .ptr 2 0 0), (35, eS 1 vi a1), (36, vi (a1.length : Int)), (37, vi 0)], [some (.row 1 [vi a0]), some (.row 1 [eS 1 vi a1]), some (.row 1 [vi 0])]⟩) sy ?_
  refine TriE.loopN h (fun (t : Nat × Int) => match t with | (v4, v5) => St.mk [(2, .ptr 0 0 0), (3, .ptr 1 0 0), (6, .ptr 2 0 0), (35, eS 1 vi a1), (36, vi (a1.length : Int)), (37, vi v4)] [some (.row 1 [vi a0]), some (.row 1 [eS 1 vi a1]), some (.row 1 [vi v5])]) rfl ?_
  clear h
  rintro back ⟨v4, v5⟩ h
  dsimp only [restore_Split_L1] at h
  refine sj ?_
  refine jv (vb (decide (v4 < a1.length))) (cy (I0 38 (.bin .lss false (.t 37) (.t 36)))) (n_lss (i := v4) (j := a1.length) rfl rfl) rfl ?_
  refine jp [(2, .ptr 0 0 0), (3, .ptr 1 0 0), (6, .ptr 2 0 0), (35, eS 1 vi a1), (36, vi (a1.length : Int)), (37, vi v4), (38, vb (decide (v4 < a1.length)))] ?_
  refine TriE.seq ?_
  refine TriE.cond (b := decide (v4 < a1.length)) rfl (fun c6 => ?_) (fun c6 => ?_)
  · have h := cond_t h c6
    refine TriE.skip ?_
    refine TriE.seq ?_
    refine TriE.block ?_
    refine sj ?_
    refine jv (.fptr 1 (List.map vi a1) v4 0) (cy (I0 39 (.iaddr 1 (.t 35) (.t 37)))) (ok_iaddr_m (j := v4) rfl rfl rfl c6) rfl ?_
    refine jv (vi (ix a1 v4)) (cy (I0 40 (.load false 1 (.t 39)))) (ok_load_fm (v := vi (ix a1 v4)) rfl c6 rfl) rfl ?_
    refine jq 1 [(2, .ptr 0 0 0), (3, .ptr 1 0 0), (6, .ptr 2 0 0), (35, eS 1 vi a1), (36, vi (a1.length : Int)), (37, vi v4), (8, vi (ix a1 v4))] [some (.row 1 [vi a0]), some (.row 1 [eS 1 vi a1]), some (.row 1 [vi v5])] ?_
    refine TriE.regJ ?_
    refine rn 2 [(2, .ptr 0 0 0), (3, .ptr 1 0 0), (6, .ptr 2 0 0), (35, eS 1 vi a1), (36, vi (a1.length : Int)), (37, vi v4), (41, vi v5), (42, vi (ix a1 v4))] [some (.row 1 [vi a0]), some (.row 1 [eS 1 vi a1]), some (.row 1 [vi v5])] ?_
    obtain ⟨c7, h⟩ := chk_some h
    refine jv (vi (v5 + (ix a1 v4))) (cy (I0 43 (.bin .add false (.t 41) (.t 42)))) (r_add rfl rfl c7) rfl ?_
    refine jq 1 [(2, .ptr 0 0 0), (3, .ptr 1 0 0), (6, .ptr 2 0 0), (35, eS 1 vi a1), (36, vi (a1.length : Int)), (37, vi v4)] [some (.row 1 [vi a0]), some (.row 1 [eS 1 vi a1]), some (.row 1 [vi (v5 + (ix a1 v4))])] ?_
    refine TriE.regJ ?_
    obtain ⟨c8, h⟩ := chk_some h
    refine jv (vi ((v4 + 1 : Nat) : Int)) (cy (I0 44 (.bin .add false (.t 37) (.c (.p (.int .i64 1)))))) (r_addn (i := v4) (j := 1) rfl rfl c8) rfl ?_
    refine jq 1 [(2, .ptr 0 0 0), (3, .ptr 1 0 0), (6, .ptr 2 0 0), (35, eS 1 vi a1), (36, vi (a1.length : Int)), (37, vi ((v4 + 1 : Nat) : Int))] [some (.row 1 [vi a0]), some (.row 1 [eS 1 vi a1]), some (.row 1 [vi (v5 + (ix a1 v4))])] ?_
    exact Vs.intro sy ⟨(v4 + 1, v5 + (ix a1 v4)), rfl, h⟩
  have h := cond_f h c6
  refine TriE.exit ?_
  exact Vs.intro sy ⟨v5, rfl, h⟩
theorem agraffebase_Texts_ok (n : Nat) (a0 : List Str) (a1 : List Str) (r : Bool) (h : agraffebase_Texts n a0 a1 = some r) : FnL Tryz.prog 39 [eS 1 vt a0, eS 1 vt a1] [] (vb r) [] := by
  dsimp only [agraffebase_Texts] at h
  refine FnL.ofS (ts := [4]) Tryz.call39 Tryz.func39 rfl rfl (Nat.le_of_ble_eq_true rfl) (Nat.le_of_ble_eq_true rfl) (fun j h => absurd h (Nat.not_lt_zero j)) ?_
  refine sr [(0, eS 1 vt a0), (1, eS 1 vt a1)] [] ?_
  refine TriE.seq ?_
  refine sj ?_
  refine rn 1 [(0, eS 1 vt a0), (1, eS 1 vt a1), (6, eS 1 vt a0)] [] ?_
  refine jv (vi (a0.length : Int)) (cy (I0 7 (.len 0 (.t 6)))) (ok_len_m rfl) rfl ?_
  refine rn 1 [(0, eS 1 vt a0), (1, eS 1 vt a1), (7, vi (a0.length : Int)), (8, eS 1 vt a1)] [] ?_
  refine jv (vi (a1.length : Int)) (cy (I0 9 (.len 0 (.t 8)))) (ok_len_m rfl) rfl ?_
  refine jv (vb (!decide (a0.length = a1.length))) (cy (I0 10 (.bin .neq false (.t 7) (.t 9)))) (n_neq (i := a0.length) (j := a1.length) rfl rfl) rfl ?_
  refine jp [(0, eS 1 vt a0), (1, eS 1 vt a1), (10, vb (!decide (a0.length = a1.length)))] ?_
  refine TriE.cond (b := !decide (a0.length = a1.length)) rfl (fun c1 => ?_) (fun c1 => ?_)
  · have h := cond_t h c1
    refine sr [(4, vb false)] [] ?_
    refine TriE.ret ?_
    have h := Option.some.inj h
    subst h
    exact DoneS.ret (S' := ⟨[(4, vb false)], []⟩) Sees.refl rfl rfl
  have h := cond_f h c1
  refine TriE.skip ?_
  refine TriE.seqK h (fun (_ : Unit) => St.mk [] []) ?_ ?_
  · rintro ⟨⟩ h
    refine sr [(4, vb true)] [] ?_
    refine TriE.ret ?_
    have h := Option.some.inj h
    subst h
    exact DoneS.ret (S' := ⟨[(4, vb true)], []⟩) Sees.refl rfl rfl
  intro k1 h
  refine sr [(0, eS 1 vt a0), (1, eS 1 vt a1), (5, vi 0)] [] ?_
  refine TriE.block ?_
  refine TriE.sees (S' := ⟨[(0, eS 1 vt a0), (1, eS 1 vt a1), (5, vi 0)], []⟩) sy ?_
  refine TriE.loopN h (fun (v1 : Nat) => St.mk [(0, eS 1 vt a0), (1, eS 1 vt a1), (5, vi v1)] []) rfl ?_
  clear h
  rintro back v1 h
  dsimp only [agraffebase_Texts_L1] at h
  refine TriE.seq ?_
  refine sj ?_
  refine rn 2 [(0, eS 1 vt a0), (1, eS 1 vt a1), (5, vi v1), (11, vi v1), (12, eS 1 vt a0)] [] ?_
  refine jv (vi (a0.length : Int)) (cy (I0 13 (.len 0 (.t 12)))) (ok_len_m rfl) rfl ?_
  refine jv (vb (decide (v1 < a0.length))) (cy (I0 14 (.bin .lss false (.t 11) (.t 13)))) (n_lss (i := v1) (j := a0.length) rfl rfl) rfl ?_
  refine jp [(0, eS 1 vt a0), (1, eS 1 vt a1), (5, vi v1), (14, vb (decide (v1 < a0.length)))] ?_
  refine TriE.cond (b := decide (v1 < a0.length)) rfl (fun c2 => ?_) (fun c2 => ?_)
  · have h := cond_t h c2
    refine TriE.skip ?_
    refine TriE.seq ?_
    refine TriE.block ?_
    refine TriE.seq ?_
    refine TriE.sees (Sees.less (fr' := [(0, eS 1 vt a0), (1, eS 1 vt a1), (5, vi v1)]) (.cons rfl (.cons rfl (.cons rfl .nil)))) ?_
    refine TriE.draw (by kernel_rfl) ?_
    refine RegD.run 2 [(18, vi v1), (17, eS 1 vt a0), (0, eS 1 vt a0), (1, eS 1 vt a1), (5, vi v1)] [none, none] (by kernel_rfl) ?_
    refine dv (.fptr 1 (List.map vt a0) v1 0) (cy (I0 19 (.iaddr 1 (.t 17) (.t 18)))) (ok_iaddr_m (j := v1) rfl rfl rfl c2) rfl ?_
    refine dv (vt (ix a0 v1)) (cy (I0 20 (.load false 1 (.t 19)))) (ok_load_fm (v := vt (ix a0 v1)) rfl c2 rfl) rfl ?_
    refine RegD.run 2 [(22, vi v1), (21, eS 1 vt a1), (20, vt (ix a0 v1)), (19, .fptr 1 (List.map vt a0) v1 0), (18, vi v1), (17, eS 1 vt a0), (0, eS 1 vt a0), (1, eS 1 vt a1), (5, vi v1)] [none, none, none, none, none, none] (by kernel_rfl) ?_
    obtain ⟨c3, h⟩ := chk_some h
    refine dv (.fptr 1 (List.map vt a1) v1 0) (cy (I0 23 (.iaddr 1 (.t 21) (.t 22)))) (ok_iaddr_m (j := v1) rfl rfl rfl c3) rfl ?_
    refine dv (vt (ix a1 v1)) (cy (I0 24 (.load false 1 (.t 23)))) (ok_load_fm (v := vt (ix a1 v1)) rfl c3 rfl) rfl ?_
    refine RegD.run 1 [(25, vb (!((ix a0 v1) == (ix a1 v1)))), (24, vt (ix a1 v1)), (23, .fptr 1 (List.map vt a1) v1 0), (22, vi v1), (21, eS 1 vt a1), (20, vt (ix a0 v1)), (19, .fptr 1 (List.map vt a0) v1 0), (18, vi v1), (17, eS 1 vt a0), (0, eS 1 vt a0), (1, eS 1 vt a1), (5, vi v1)] [none, none, none, none, none, none, none, none, none] (by kernel_rfl) ?_
    refine RegD.done rfl (by kernel_rfl) (S' := ⟨[(0, eS 1 vt a0), (1, eS 1 vt a1), (5, vi v1), (25, vb (!((ix a0 v1) == (ix a1 v1))))], []⟩) (sc [] (by decide) (by kernel_rfl) ObRen.nil rfl rfl) ?_
    refine TriE.cond (b := !((ix a0 v1) == (ix a1 v1))) rfl (fun c4 => ?_) (fun c4 => ?_)
    · have h := cond_t h c4
      refine sr [(4, vb false)] [] ?_
      refine TriE.ret ?_
      have h := Option.some.inj h
      subst h
      exact DoneS.ret (S' := ⟨[(4, vb false)], []⟩) Sees.refl rfl rfl
    have h := cond_f h c4
    refine TriE.skip ?_
    refine TriE.regJ ?_
    refine rn 1 [(0, eS 1 vt a0), (1, eS 1 vt a1), (15, vi v1)] [] ?_
    obtain ⟨c5, h⟩ := chk_some h
    refine jv (vi ((v1 + 1 : Nat) : Int)) (cy (I0 16 (.bin .add false (.t 15) (.c (.p (.int .i64 1)))))) (r_addn (i := v1) (j := 1) rfl rfl c5) rfl ?_
    refine jq 1 [(0, eS 1 vt a0), (1, eS 1 vt a1), (5, vi ((v1 + 1 : Nat) : Int))] [] ?_
    exact Vs.intro sy ⟨(v1 + 1), rfl, h⟩
  have h := cond_f h c2
  refine TriE.exit ?_
  exact Vs.intro sy ⟨(), rfl, h⟩
theorem agraffebase_Ints_ok (n : Nat) (a0 : List Int) (a1 : List Int) (r : Bool) (h : agraffebase_Ints n a0 a1 = some r) : FnL Tryz.prog 33 [eS 1 vi a0, eS 1 vi a1] [] (vb r) [] := by
  dsimp only [agraffebase_Ints] at h
  refine FnL.ofS (ts := [4]) Tryz.call33 Tryz.func33 rfl rfl (Nat.le_of_ble_eq_true rfl) (Nat.le_of_ble_eq_true rfl) (fun j h => absurd h (Nat.not_lt_zero j)) ?_
  refine sr [(0, eS 1 vi a0), (1, eS 1 vi a1)] [] ?_
  refine TriE.seq ?_
  refine sj ?_
  refine rn 1 [(0, eS 1 vi a0), (1, eS 1 vi a1), (6, eS 1 vi a0)] [] ?_
  refine jv (vi (a0.length : Int)) (cy (I0 7 (.len 0 (.t 6)))) (ok_len_m rfl) rfl ?_
  refine rn 1 [(0, eS 1 vi a0), (1, eS 1 vi a1), (7, vi (a0.length : Int)), (8, eS 1 vi a1)] [] ?_
  refine jv (vi (a1.length : Int)) (cy (I0 9 (.len 0 (.t 8)))) (ok_len_m rfl) rfl ?_
  refine jv (vb (!decide (a0.length = a1.length))) (cy (I0 10 (.bin .neq false (.t 7) (.t 9)))) (n_neq (i := a0.length) (j := a1.length) rfl rfl) rfl ?_
  refine jp [(0, eS 1 vi a0), (1, eS 1 vi a1), (10, vb (!decide (a0.length = a1.length)))] ?_
  refine TriE.cond (b := !decide (a0.length = a1.length)) rfl (fun c1 => ?_) (fun c1 => ?_)
  · have h := cond_t h c1
    refine sr [(4, vb false)] [] ?_
    refine TriE.ret ?_
    have h := Option.some.inj h
    subst h
    exact DoneS.ret (S' := ⟨[(4, vb false)], []⟩) Sees.refl rfl rfl
  have h := cond_f h c1
  refine TriE.skip ?_
  refine TriE.seqK h (fun (_ : Unit) => St.mk [] []) ?_ ?_
  · rintro ⟨⟩ h
    refine sr [(4, vb true)] [] ?_
    refine TriE.ret ?_
    have h := Option.some.inj h
    subst h
    exact DoneS.ret (S' := ⟨[(4, vb true)], []⟩) Sees.refl rfl rfl
  intro k1 h
  refine sr [(0, eS 1 vi a0), (1, eS 1 vi a1), (5, vi 0)] [] ?_
  refine TriE.block ?_
  refine TriE.sees (S' := ⟨[(0, eS 1 vi a0), (1, eS 1 vi a1), (5, vi 0)], []⟩) sy ?_
  refine TriE.loopN h (fun (v1 : Nat) => St.mk [(0, eS 1 vi a0), (1, eS 1 vi a1), (5, vi v1)] []) rfl ?_
  clear h
  rintro back v1 h
  dsimp only [agraffebase_Ints_L1] at h
  refine TriE.seq ?_
  refine sj ?_
  refine rn 2 [(0, eS 1 vi a0), (1, eS 1 vi a1), (5, vi v1), (11, vi v1), (12, eS 1 vi a0)] [] ?_
  refine jv (vi (a0.length : Int)) (cy (I0 13 (.len 0 (.t 12)))) (ok_len_m rfl) rfl ?_
  refine jv (vb (decide (v1 < a0.length))) (cy (I0 14 (.bin .lss false (.t 11) (.t 13)))) (n_lss (i := v1) (j := a0.length) rfl rfl) rfl ?_
  refine jp [(0, eS 1 vi a0), (1, eS 1 vi a1), (5, vi v1), (14, vb (decide (v1 < a0.length)))] ?_
  refine TriE.cond (b := decide (v1 < a0.length)) rfl (fun c2 => ?_) (fun c2 => ?_)
  · have h := cond_t h c2
    refine TriE.skip ?_
    refine TriE.seq ?_
    refine TriE.block ?_
    refine TriE.seq ?_
    refine TriE.sees (Sees.less (fr' := [(0, eS 1 vi a0), (1, eS 1 vi a1), (5, vi v1)]) (.cons rfl (.cons rfl (.cons rfl .nil)))) ?_
    refine TriE.draw (by kernel_rfl) ?_
    refine RegD.run 2 [(18, vi v1), (17, eS 1 vi a0), (0, eS 1 vi a0), (1, eS 1 vi a1), (5, vi v1)] [none, none] (by kernel_rfl) ?_
    refine dv (.fptr 1 (List.map vi a0) v1 0) (cy (I0 19 (.iaddr 1 (.t 17) (.t 18)))) (ok_iaddr_m (j := v1) rfl rfl rfl c2) rfl ?_
    refine dv (vi (ix a0 v1)) (cy (I0 20 (.load false 1 (.t 19)))) (ok_load_fm (v := vi (ix a0 v1)) rfl c2 rfl) rfl ?_
    refine RegD.run 2 [(22, vi v1), (21, eS 1 vi a1), (20, vi (ix a0 v1)), (19, .fptr 1 (List.map vi a0) v1 0), (18, vi v1), (17, eS 1 vi a0), (0, eS 1 vi a0), (1, eS 1 vi a1), (5, vi v1)] [none, none, none, none, none, none] (by kernel_rfl) ?_
    obtain ⟨c3, h⟩ := chk_some h
    refine dv (.fptr 1 (List.map vi a1) v1 0) (cy (I0 23 (.iaddr 1 (.t 21) (.t 22)))) (ok_iaddr_m (j := v1) rfl rfl rfl c3) rfl ?_
    refine dv (vi (ix a1 v1)) (cy (I0 24 (.load false 1 (.t 23)))) (ok_load_fm (v := vi (ix a1 v1)) rfl c3 rfl) rfl ?_
    refine RegD.run 1 [(25, vb ((ix a0 v1) != (ix a1 v1))), (24, vi (ix a1 v1)), (23, .fptr 1 (List.map vi a1) v1 0), (22, vi v1), (21, eS 1 vi a1), (20, vi (ix a0 v1)), (19, .fptr 1 (List.map vi a0) v1 0), (18, vi v1), (17, eS 1 vi a0), (0, eS 1 vi a0), (1, eS 1 vi a1), (5, vi v1)] [none, none, none, none, none, none, none, none, none] (by kernel_rfl) ?_
    refine RegD.done rfl (by kernel_rfl) (S' := ⟨[(0, eS 1 vi a0), (1, eS 1 vi a1), (5, vi v1), (25, vb ((ix a0 v1) != (ix a1 v1)))], []⟩) (sc [] (by decide) (by kernel_rfl) ObRen.nil rfl rfl) ?_
    refine TriE.cond (b := ((ix a0 v1) != (ix a1 v1))) rfl (fun c4 => ?_) (fun c4 => ?_)
    · have h := cond_t h c4
      refine sr [(4, vb false)] [] ?_
      refine TriE.ret ?_
      have h := Option.some.inj h
      subst h
      exact DoneS.ret (S' := ⟨[(4, vb false)], []⟩) Sees.refl rfl rfl
    have h := cond_f h c4
    refine TriE.skip ?_
    refine TriE.regJ ?_
    refine rn 1 [(0, eS 1 vi a0), (1, eS 1 vi a1), (15, vi v1)] [] ?_
    obtain ⟨c5, h⟩ := chk_some h
    refine jv (vi ((v1 + 1 : Nat) : Int)) (cy (I0 16 (.bin .add false (.t 15) (.c (.p (.int .i64 1)))))) (r_addn (i := v1) (j := 1) rfl rfl c5) rfl ?_
    refine jq 1 [(0, eS 1 vi a0), (1, eS 1 vi a1), (5, vi ((v1 + 1 : Nat) : Int))] [] ?_
    exact Vs.intro sy ⟨(v1 + 1), rfl, h⟩
  have h := cond_f h c2
  refine TriE.exit ?_
  exact Vs.intro sy ⟨(), rfl, h⟩
theorem agraffebase_Lists_ok (n : Nat) (a0 : List (List Int)) (a1 : List (List Int)) (r : Bool) (h : agraffebase_Lists n a0 a1 = some r) : FnL Tryz.prog 35 [eS 1 (eS 1 vi) a0, eS 1 (eS 1 vi) a1] [] (vb r) [] := by
  dsimp only [agraffebase_Lists] at h
  refine FnL.ofS (ts := [4]) Tryz.call35 Tryz.func35 rfl rfl (Nat.le_of_ble_eq_true rfl) (Nat.le_of_ble_eq_true rfl) (fun j h => absurd h (Nat.not_lt_zero j)) ?_
  refine sr [(0, eS 1 (eS 1 vi) a0), (1, eS 1 (eS 1 vi) a1)] [] ?_
  refine TriE.seq ?_
  refine sj ?_
  refine rn 1 [(0, eS 1 (eS 1 vi) a0), (1, eS 1 (eS 1 vi) a1), (6, eS 1 (eS 1 vi) a0)] [] ?_
  refine jv (vi (a0.length : Int)) (cy (I0 7 (.len 0 (.t 6)))) (ok_len_m rfl) rfl ?_
  refine rn 1 [(0, eS 1 (eS 1 vi) a0), (1, eS 1 (eS 1 vi) a1), (7, vi (a0.length : Int)), (8, eS 1 (eS 1 vi) a1)] [] ?_
  refine jv (vi (a1.length : Int)) (cy (I0 9 (.len 0 (.t 8)))) (ok_len_m rfl) rfl ?_
  refine jv (vb (!decide (a0.length = a1.length))) (cy (I0 10 (.bin .neq false (.t 7) (.t 9)))) (n_neq (i := a0.length) (j := a1.length) rfl rfl) rfl ?_
  refine jp [(0, eS 1 (eS 1 vi) a0), (1, eS 1 (eS 1 vi) a1), (10, vb (!decide (a0.length = a1.length)))] ?_
  refine TriE.cond (b := !decide (a0.length = a1.length)) rfl (fun c1 => ?_) (fun c1 => ?_)
  · have h := cond_t h c1
    refine sr [(4, vb false)] [] ?_
    refine TriE.ret ?_
    have h := Option.some.inj h
    subst h
    exact DoneS.ret (S' := ⟨[(4, vb false)], []⟩) Sees.refl rfl rfl
  have h := cond_f h c1
  refine TriE.skip ?_
  refine TriE.seqK h (fun (_ : Unit) => St.mk [] []) ?_ ?_
  · rintro ⟨⟩ h
    refine sr [(4, vb true)] [] ?_
    refine TriE.ret ?_
    have h := Option.some.inj h
    subst h
    exact DoneS.ret (S' := ⟨[(4, vb true)], []⟩) Sees.refl rfl rfl
  intro k1 h
  refine sr [(0, eS 1 (eS 1 vi) a0), (1, eS 1 (eS 1 vi) a1), (5, vi 0)] [] ?_
  refine TriE.block ?_
  refine TriE.sees (S' := ⟨[(0, eS 1 (eS 1 vi) a0), (1, eS 1 (eS 1 vi) a1), (5, vi 0)], []⟩) sy ?_
  refine TriE.loopN h (fun (v2 : Nat) => St.mk [(0, eS 1 (eS 1 vi) a0), (1, eS 1 (eS 1 vi) a1), (5, vi v2)] []) rfl ?_
  clear h
  rintro back v2 h
  dsimp only [agraffebase_Lists_L1] at h
  refine TriE.seq ?_
  refine sj ?_
  refine rn 2 [(0, eS 1 (eS 1 vi) a0), (1, eS 1 (eS 1 vi) a1), (5, vi v2), (11, vi v2), (12, eS 1 (eS 1 vi) a0)] [] ?_
  refine jv (vi (a0.length : Int)) (cy (I0 13 (.len 0 (.t 12)))) (ok_len_m rfl) rfl ?_
  refine jv (vb (decide (v2 < a0.length))) (cy (I0 14 (.bin .lss false (.t 11) (.t 13)))) (n_lss (i := v2) (j := a0.length) rfl rfl) rfl ?_
  refine jp [(0, eS 1 (eS 1 vi) a0), (1, eS 1 (eS 1 vi) a1), (5, vi v2), (14, vb (decide (v2 < a0.length)))] ?_
  refine TriE.cond (b := decide (v2 < a0.length)) rfl (fun c2 => ?_) (fun c2 => ?_)
  · have h := cond_t h c2
    refine TriE.skip ?_
    refine TriE.seq ?_
    refine TriE.block ?_
    refine TriE.seq ?_
    refine TriE.sees (Sees.less (fr' := [(0, eS 1 (eS 1 vi) a0), (1, eS 1 (eS 1 vi) a1), (5, vi v2)]) (.cons rfl (.cons rfl (.cons rfl .nil)))) ?_
    refine TriE.draw (by kernel_rfl) ?_
    refine RegD.run 2 [(18, vi v2), (17, eS 1 (eS 1 vi) a0), (0, eS 1 (eS 1 vi) a0), (1, eS 1 (eS 1 vi) a1), (5, vi v2)] [none, none] (by kernel_rfl) ?_
    refine dv (.fptr 1 (List.map (eS 1 vi) a0) v2 0) (cy (I0 19 (.iaddr 1 (.t 17) (.t 18)))) (ok_iaddr_m (j := v2) rfl rfl rfl c2) rfl ?_
    refine dv (eS 1 vi (ix a0 v2)) (cy (I0 20 (.load false 1 (.t 19)))) (ok_load_fm (v := eS 1 vi (ix a0 v2)) rfl c2 rfl) rfl ?_
    refine RegD.run 2 [(22, vi v2), (21, eS 1 (eS 1 vi) a1), (20, eS 1 vi (ix a0 v2)), (19, .fptr 1 (List.map (eS 1 vi) a0) v2 0), (18, vi v2), (17, eS 1 (eS 1 vi) a0), (0, eS 1 (eS 1 vi) a0), (1, eS 1 (eS 1 vi) a1), (5, vi v2)] [none, none, none, none, none, none] (by kernel_rfl) ?_
    obtain ⟨c3, h⟩ := chk_some h
    refine dv (.fptr 1 (List.map (eS 1 vi) a1) v2 0) (cy (I0 23 (.iaddr 1 (.t 21) (.t 22)))) (ok_iaddr_m (j := v2) rfl rfl rfl c3) rfl ?_
    refine dv (eS 1 vi (ix a1 v2)) (cy (I0 24 (.load false 1 (.t 23)))) (ok_load_fm (v := eS 1 vi (ix a1 v2)) rfl c3 rfl) rfl ?_
    obtain ⟨y3, hy3, h⟩ := bind_some h
    refine RegD.op (OpD.call (y' := vb y3) (obx := []) (oby := []) (ob2 := [none, none, none, none, none, none, none, none, none]) (tch := []) 0 _ _ (cy (I0 25 (.call 33 [(.t 20), (.t 24)]))) (agraffebase_Ints_ok n (ix a0 v2) (ix a1 v2) y3 hy3) [] (by kernel_rfl) (.cons rfl (.cons rfl (.cons rfl .nil))) (by kernel_rfl) (by kernel_rfl) ObsRen.nil (by kernel_rfl) ObsRen.nil (by kernel_rfl) rfl (.inr ⟨rfl, rfl⟩)) ?_
    refine RegD.run 1 [(26, vb (!y3)), (25, vb y3), (24, eS 1 vi (ix a1 v2)), (23, .fptr 1 (List.map (eS 1 vi) a1) v2 0), (22, vi v2), (21, eS 1 (eS 1 vi) a1), (20, eS 1 vi (ix a0 v2)), (19, .fptr 1 (List.map (eS 1 vi) a0) v2 0), (18, vi v2), (17, eS 1 (eS 1 vi) a0), (0, eS 1 (eS 1 vi) a0), (1, eS 1 (eS 1 vi) a1), (5, vi v2)] [none, none, none, none, none, none, none, none, none, none] (by kernel_rfl) ?_
    refine RegD.done rfl (by kernel_rfl) (S' := ⟨[(0, eS 1 (eS 1 vi) a0), (1, eS 1 (eS 1 vi) a1), (5, vi v2), (26, vb (!y3))], []⟩) (sc [] (by decide) (by kernel_rfl) ObRen.nil rfl rfl) ?_
    refine TriE.cond (b := !y3) rfl (fun c4 => ?_) (fun c4 => ?_)
    · have h := cond_t h c4
      refine sr [(4, vb false)] [] ?_
      refine TriE.ret ?_
      have h := Option.some.inj h
      subst h
      exact DoneS.ret (S' := ⟨[(4, vb false)], []⟩) Sees.refl rfl rfl
    have h := cond_f h c4
    refine TriE.skip ?_
    refine TriE.regJ ?_
    refine rn 1 [(0, eS 1 (eS 1 vi) a0), (1, eS 1 (eS 1 vi) a1), (15, vi v2)] [] ?_
    obtain ⟨c5, h⟩ := chk_some h
    refine jv (vi ((v2 + 1 : Nat) : Int)) (cy (I0 16 (.bin .add false (.t 15) (.c (.p (.int .i64 1)))))) (r_addn (i := v2) (j := 1) rfl rfl c5) rfl ?_
    refine jq 1 [(0, eS 1 (eS 1 vi) a0), (1, eS 1 (eS 1 vi) a1), (5, vi ((v2 + 1 : Nat) : Int))] [] ?_
    exact Vs.intro sy ⟨(v2 + 1), rfl, h⟩
  have h := cond_f h c2
  refine TriE.exit ?_
  exact Vs.intro sy ⟨(), rfl, h⟩
theorem agraffelaw08_awake_ok (n : Nat)  (r : Bool) (h : agraffelaw08_awake n  = some r) : FnL Tryz.prog 14 [] [] (vb r) [] := by
  dsimp only [agraffelaw08_awake] at h
  refine FnL.ofS (ts := [0]) Tryz.call14 Tryz.func14 rfl rfl (Nat.le_of_ble_eq_true rfl) (Nat.le_of_ble_eq_true rfl) (fun j h => absurd h (Nat.not_lt_zero j)) ?_
  refine sr [] [] ?_
  refine sj ?_
  obtain ⟨y1, hy1, h⟩ := bind_some h
  refine RegJ.op (Op1.call (y' := eS 6 eTask ([(Task.mk ([111, 112, 101, 110] : Str) 1000 2 ([] : List Str) ([] : List (List Str)) ([] : List PartCount)), (Task.mk ([99, 108, 101, 97, 110] : Str) 2000 3 ([([111, 112, 101, 110] : Str)] : List Str) ([] : List (List Str)) ([] : List PartCount)), (Task.mk ([112, 97, 116, 99, 104] : Str) 5000 8 ([([99, 108, 101, 97, 110] : Str)] : List Str) ([] : List (List Str)) ([(PartCount.mk ([102, 101, 108, 116] : Str) 2)] : List PartCount)), (Task.mk ([114, 101, 110, 101, 119] : Str) 9000 5 ([([111, 112, 101, 110] : Str)] : List Str) ([] : List (List Str)) ([(PartCount.mk ([102, 101, 108, 116] : Str) 1)] : List PartCount)), (Task.mk ([116, 117, 110, 101] : Str) 4000 4 ([] : List Str) ([([([112, 97, 116, 99, 104] : Str), ([114, 101, 110, 101, 119] : Str)] : List Str)] : List (List Str)) ([] : List PartCount))] : List Task)) (obx := []) (oby := []) (ob2 := []) _ _ (cy (I0 9 (.call 82 []))) rfl (agraffelaw08_Works_ok n y1 hy1) [] (by kernel_rfl) (.cons rfl .nil) (by kernel_rfl) (by kernel_rfl) ObsRen.nil (by kernel_rfl) ObsRen.nil (by kernel_rfl)) ?_
  obtain ⟨y2, hy2, h⟩ := bind_some h
  refine RegJ.op (Op1.call (y' := eS 3 eStocked ([(Stocked.mk ([102, 101, 108, 116] : Str) 500 5)] : List Stocked)) (obx := []) (oby := []) (ob2 := []) _ _ (cy (I0 10 (.call 83 []))) rfl (agraffelaw08_Shelf_ok n y2 hy2) [] (by kernel_rfl) (.cons rfl .nil) (by kernel_rfl) (by kernel_rfl) ObsRen.nil (by kernel_rfl) ObsRen.nil (by kernel_rfl)) ?_
  refine rn 1 [(9, eS 6 eTask ([(Task.mk ([111, 112, 101, 110] : Str) 1000 2 ([] : List Str) ([] : List (List Str)) ([] : List PartCount)), (Task.mk ([99, 108, 101, 97, 110] : Str) 2000 3 ([([111, 112, 101, 110] : Str)] : List Str) ([] : List (List Str)) ([] : List PartCount)), (Task.mk ([112, 97, 116, 99, 104] : Str) 5000 8 ([([99, 108, 101, 97, 110] : Str)] : List Str) ([] : List (List Str)) ([(PartCount.mk ([102, 101, 108, 116] : Str) 2)] : List PartCount)), (Task.mk ([114, 101, 110, 101, 119] : Str) 9000 5 ([([111, 112, 101, 110] : Str)] : List Str) ([] : List (List Str)) ([(PartCount.mk ([102, 101, 108, 116] : Str) 1)] : List PartCount)), (Task.mk ([116, 117, 110, 101] : Str) 4000 4 ([] : List Str) ([([([112, 97, 116, 99, 104] : Str), ([114, 101, 110, 101, 119] : Str)] : List Str)] : List (List Str)) ([] : List PartCount))] : List Task)), (10, eS 3 eStocked ([(Stocked.mk ([102, 101, 108, 116] : Str) 500 5)] : List Stocked)), (11, .own 0 0 1)] [some (.row 1 [vt ([116, 117, 110, 101] : Str)])] ?_
  refine RegJ.sees (Sees.freeze 0 (fr' := [(9, eS 6 eTask ([(Task.mk ([111, 112, 101, 110] : Str) 1000 2 ([] : List Str) ([] : List (List Str)) ([] : List PartCount)), (Task.mk ([99, 108, 101, 97, 110] : Str) 2000 3 ([([111, 112, 101, 110] : Str)] : List Str) ([] : List (List Str)) ([] : List PartCount)), (Task.mk ([112, 97, 116, 99, 104] : Str) 5000 8 ([([99, 108, 101, 97, 110] : Str)] : List Str) ([] : List (List Str)) ([(PartCount.mk ([102, 101, 108, 116] : Str) 2)] : List PartCount)), (Task.mk ([114, 101, 110, 101, 119] : Str) 9000 5 ([([111, 112, 101, 110] : Str)] : List Str) ([] : List (List Str)) ([(PartCount.mk ([102, 101, 108, 116] : Str) 1)] : List PartCount)), (Task.mk ([116, 117, 110, 101] : Str) 4000 4 ([] : List Str) ([([([112, 97, 116, 99, 104] : Str), ([114, 101, 110, 101, 119] : Str)] : List Str)] : List (List Str)) ([] : List PartCount))] : List Task)), (10, eS 3 eStocked ([(Stocked.mk ([102, 101, 108, 116] : Str) 500 5)] : List Stocked)), (11, eS 1 vt ([([116, 117, 110, 101] : Str)] : List Str))]) (ob' := [none]) rfl (frzs_cons rfl frzs_nil) (.cons (.refl _) (.cons (.refl _) (.cons (.own rfl (by decide)) .nil))) rfl) ?_
  obtain ⟨y3, hy3, h⟩ := bind_some h
  refine RegJ.op (Op1.call (y' := .tup [eS 1 vt y3.2.1, vi y3.2.2, vi y3.1]) (obx := []) (oby := []) (ob2 := [none]) _ _ (cy (I0 12 (.call 65 [(.t 9), (.t 10), (.t 11)]))) rfl (restore_Cheapest_ok n ([(Task.mk ([111, 112, 101, 110] : Str) 1000 2 ([] : List Str) ([] : List (List Str)) ([] : List PartCount)), (Task.mk ([99, 108, 101, 97, 110] : Str) 2000 3 ([([111, 112, 101, 110] : Str)] : List Str) ([] : List (List Str)) ([] : List PartCount)), (Task.mk ([112, 97, 116, 99, 104] : Str) 5000 8 ([([99, 108, 101, 97, 110] : Str)] : List Str) ([] : List (List Str)) ([(PartCount.mk ([102, 101, 108, 116] : Str) 2)] : List PartCount)), (Task.mk ([114, 101, 110, 101, 119] : Str) 9000 5 ([([111, 112, 101, 110] : Str)] : List Str) ([] : List (List Str)) ([(PartCount.mk ([102, 101, 108, 116] : Str) 1)] : List PartCount)), (Task.mk ([116, 117, 110, 101] : Str) 4000 4 ([] : List Str) ([([([112, 97, 116, 99, 104] : Str), ([114, 101, 110, 101, 119] : Str)] : List Str)] : List (List Str)) ([] : List PartCount))] : List Task) ([(Stocked.mk ([102, 101, 108, 116] : Str) 500 5)] : List Stocked) ([([116, 117, 110, 101] : Str)] : List Str) y3 hy3) [] (by kernel_rfl) (.cons rfl (.cons rfl (.cons rfl (.cons rfl .nil)))) (by kernel_rfl) (by kernel_rfl) ObsRen.nil (by kernel_rfl) ObsRen.nil (by kernel_rfl)) ?_
  refine jq 7 [(1, eS 1 vt y3.2.1), (2, vi y3.2.2), (3, vi y3.1)] [none] ?_
  refine sj ?_
  refine rn 6 [(1, eS 1 vt y3.2.1), (2, vi y3.2.2), (3, vi y3.1), (19, .own 1 0 2), (22, .own 2 0 2)] [none, some (.row 3 [.agg [vt ([97] : Str), vi 900, vi 1000], .agg [vt ([98] : Str), vi 900, vi 700]]), some (.row 3 [.agg [vi 900, vi 600, vi 2], .agg [vi 900, vi 400, vi 1]])] ?_
  refine RegJ.sees (Sees.freeze 1 (fr' := [(1, eS 1 vt y3.2.1), (2, vi y3.2.2), (3, vi y3.1), (19, eS 3 eCoil ([(Coil.mk ([97] : Str) 900 1000), (Coil.mk ([98] : Str) 900 700)] : List Coil)), (22, .own 2 0 2)]) (ob' := [none, none, some (.row 3 [.agg [vi 900, vi 600, vi 2], .agg [vi 900, vi 400, vi 1]])]) rfl (frzs_cons rfl (frzs_cons rfl frzs_nil)) (.cons (.refl _) (.cons (.refl _) (.cons (.refl _) (.cons (.own rfl (by decide)) (.cons (.refl _) .nil))))) rfl) ?_
  refine RegJ.sees (Sees.freeze 2 (fr' := [(1, eS 1 vt y3.2.1), (2, vi y3.2.2), (3, vi y3.1), (19, eS 3 eCoil ([(Coil.mk ([97] : Str) 900 1000), (Coil.mk ([98] : Str) 900 700)] : List Coil)), (22, eS 3 eWirePiece ([(WirePiece.mk 900 600 2), (WirePiece.mk 900 400 1)] : List WirePiece))]) (ob' := [none, none, none]) rfl (frzs_cons rfl (frzs_cons rfl frzs_nil)) (.cons (.refl _) (.cons (.refl _) (.cons (.refl _) (.cons (.refl _) (.cons (.own rfl (by decide)) .nil))))) rfl) ?_
  obtain ⟨y4, hy4, h⟩ := bind_some h
  refine RegJ.op (Op1.call (y' := .tup [eS 1 (eS 1 vi) y4.2, vi y4.1]) (obx := []) (oby := []) (ob2 := [none, none, none]) _ _ (cy (I0 23 (.call 29 [(.t 19), (.t 22)]))) rfl (restore_CutFirst_ok n ([(Coil.mk ([97] : Str) 900 1000), (Coil.mk ([98] : Str) 900 700)] : List Coil) ([(WirePiece.mk 900 600 2), (WirePiece.mk 900 400 1)] : List WirePiece) y4 hy4) [] (by kernel_rfl) (.cons rfl (.cons rfl (.cons rfl .nil))) (by kernel_rfl) (by kernel_rfl) ObsRen.nil (by kernel_rfl) ObsRen.nil (by kernel_rfl)) ?_
  refine jq 5 [(1, eS 1 vt y3.2.1), (2, vi y3.2.2), (3, vi y3.1), (4, eS 1 (eS 1 vi) y4.2), (5, vi y4.1)] [none, none, none] ?_
  refine sj ?_
  refine rn 1 [(1, eS 1 vt y3.2.1), (2, vi y3.2.2), (3, vi y3.1), (4, eS 1 (eS 1 vi) y4.2), (5, vi y4.1), (27, .own 3 0 3)] [none, none, none, some (.row 1 [vi 1, vi 1, vi 1])] ?_
  refine RegJ.sees (Sees.freeze 3 (fr' := [(1, eS 1 vt y3.2.1), (2, vi y3.2.2), (3, vi y3.1), (4, eS 1 (eS 1 vi) y4.2), (5, vi y4.1), (27, eS 1 vi ([1, 1, 1] : List Int))]) (ob' := [none, none, none, none]) rfl (frzs_cons rfl (frzs_cons rfl (frzs_cons rfl frzs_nil))) (.cons (.refl _) (.cons (.refl _) (.cons (.refl _) (.cons (.refl _) (.cons (.refl _) (.cons (.own rfl (by decide)) .nil)))))) rfl) ?_
  obtain ⟨y5, hy5, h⟩ := bind_some h
  refine RegJ.op (Op1.call (y' := .tup [eS 1 vi y5.2, vi y5.1]) (obx := []) (oby := []) (ob2 := [none, none, none, none]) _ _ (cy (I0 28 (.call 84 [(.c (.p (.int .i64 10))), (.t 27)]))) rfl (restore_Split_ok n 10 ([1, 1, 1] : List Int) y5 hy5) [] (by kernel_rfl) (.cons rfl (.cons rfl (.cons rfl .nil))) (by kernel_rfl) (by kernel_rfl) ObsRen.nil (by kernel_rfl) ObsRen.nil (by kernel_rfl)) ?_
  refine jq 5 [(1, eS 1 vt y3.2.1), (2, vi y3.2.2), (3, vi y3.1), (4, eS 1 (eS 1 vi) y4.2), (5, vi y4.1), (6, eS 1 vi y5.2), (7, vi y5.1)] [none, none, none, none] ?_
  refine TriE.seqK h (fun (v13 : Bool) => St.mk [(0, vb v13)] []) ?_ ?_
  · rintro v13 h
    refine TriE.ret ?_
    have h := Option.some.inj h
    subst h
    exact DoneS.ret (S' := ⟨[(0, vb v13)], []⟩) Sees.refl rfl rfl
  intro k1 h
  refine TriE.regJ ?_
  refine rn 3 [(1, eS 1 vt y3.2.1), (2, vi y3.2.2), (4, eS 1 (eS 1 vi) y4.2), (5, vi y4.1), (6, eS 1 vi y5.2), (7, vi y5.1), (33, vb (y3.1 == (0 : Int)))] [none, none, none, none] ?_
  refine RegJ.op (Op1.valk (v := vi y3.2.2) _ _ (cy (IG 34 (.mov (.t 2)) 33 true)) rfl (by kernel_rfl) (fun hg => (.cons rfl .nil))) ?_
  refine RegJ.op (Op1.valk (v := vb (y3.2.2 == (13000 : Int))) _ _ (cy (IG 35 (.bin .eql false (.t 34) (.c (.p (.int .i64 13000)))) 33 true)) rfl (by kernel_rfl) (fun hg => (.cons hg (.cons rfl .nil)))) ?_
  refine RegJ.op (Op1.and (cy (I0 36 (.pick (.t 33) (.t 35) (.c (.p (.bool false)))))) rfl rfl (by first | exact hokA1 | exact hokA0 | simp)) ?_
  refine rn 1 [(1, eS 1 vt y3.2.1), (4, eS 1 (eS 1 vi) y4.2), (5, vi y4.1), (6, eS 1 vi y5.2), (7, vi y5.1), (37, vb ((y3.1 == (0 : Int)) && (y3.2.2 == (13000 : Int))))] [none, none, none, none] ?_
  refine RegJ.op (Op1.valk (v := eS 1 vt y3.2.1) _ _ (cy (IG 38 (.mov (.t 1)) 37 true)) rfl (by kernel_rfl) (fun hg => (.cons rfl .nil))) ?_
  rcases Bool.eq_false_or_eq_true ((y3.1 == (0 : Int)) && (y3.2.2 == (13000 : Int))) with c1 | c1
  · have h := cond_t h c1
    refine RegJ.op (Op1.effk (v := .own 4 0 4) (ob' := [none, none, none, none, some (.row 1 [vt ([99, 108, 101, 97, 110] : Str), vt ([111, 112, 101, 110] : Str), vt ([112, 97, 116, 99, 104] : Str), vt ([116, 117, 110, 101] : Str)])]) _ _ (cy (IG 39 (.bslice 1 (.p (.string ⟨#[]⟩)) 4 [(0, (.c (.p (.string ⟨#[99, 108, 101, 97, 110]⟩)))), (1, (.c (.p (.string ⟨#[111, 112, 101, 110]⟩)))), (2, (.c (.p (.string ⟨#[112, 97, 116, 99, 104]⟩)))), (3, (.c (.p (.string ⟨#[116, 117, 110, 101]⟩))))]) 37 true)) (congrArg some c1) (by kernel_rfl) (.cons rfl (.cons rfl (.cons rfl (.cons rfl .nil))))) ?_
    refine RegJ.sees (Sees.freeze 4 (fr' := [(1, eS 1 vt y3.2.1), (4, eS 1 (eS 1 vi) y4.2), (5, vi y4.1), (6, eS 1 vi y5.2), (7, vi y5.1), (37, vb ((y3.1 == (0 : Int)) && (y3.2.2 == (13000 : Int)))), (38, .cond ((y3.1 == (0 : Int)) && (y3.2.2 == (13000 : Int))) (eS 1 vt y3.2.1)), (39, eS 1 vt ([([99, 108, 101, 97, 110] : Str), ([111, 112, 101, 110] : Str), ([112, 97, 116, 99, 104] : Str), ([116, 117, 110, 101] : Str)] : List Str))]) (ob' := [none, none, none, none, none]) rfl (frzs_cons rfl (frzs_cons rfl (frzs_cons rfl (frzs_cons rfl frzs_nil)))) (.cons (.refl _) (.cons (.refl _) (.cons (.refl _) (.cons (.refl _) (.cons (.refl _) (.cons (.refl _) (.cons (.refl _) (.cons (.own rfl (by decide)) .nil)))))))) rfl) ?_
    obtain ⟨y6, hy6, h⟩ := bind_some h
    refine RegJ.op (Op1.call (y' := vb y6) (obx := []) (oby := []) (ob2 := [none, none, none, none, none]) _ _ (cy (IG 40 (.call 39 [(.t 38), (.t 39)]) 37 true)) (congrArg some c1) (agraffebase_Texts_ok n y3.2.1 ([([99, 108, 101, 97, 110] : Str), ([111, 112, 101, 110] : Str), ([112, 97, 116, 99, 104] : Str), ([116, 117, 110, 101] : Str)] : List Str) y6 hy6) [] (by kernel_rfl) (.cons rfl (.cons c1 (.cons rfl .nil))) (by kernel_rfl) (by kernel_rfl) ObsRen.nil (by kernel_rfl) ObsRen.nil (by kernel_rfl)) ?_
    refine RegJ.op (Op1.and (cy (I0 41 (.pick (.t 37) (.t 40) (.c (.p (.bool false)))))) rfl rfl (by first | exact hokA1 | exact hokA0 | simp)) ?_
    refine rn 1 [(4, eS 1 (eS 1 vi) y4.2), (5, vi y4.1), (6, eS 1 vi y5.2), (7, vi y5.1), (42, vb (((y3.1 == (0 : Int)) && (y3.2.2 == (13000 : Int))) && y6))] [none, none, none, none, none] ?_
    refine RegJ.op (Op1.valk (v := vi y4.1) _ _ (cy (IG 43 (.mov (.t 5)) 42 true)) rfl (by kernel_rfl) (fun hg => (.cons rfl .nil))) ?_
    refine RegJ.op (Op1.valk (v := vb (y4.1 == (0 : Int))) _ _ (cy (IG 44 (.bin .eql false (.t 43) (.c (.p (.int .i64 0)))) 42 true)) rfl (by kernel_rfl) (fun hg => (.cons hg (.cons rfl .nil)))) ?_
    refine RegJ.op (Op1.and (cy (I0 45 (.pick (.t 42) (.t 44) (.c (.p (.bool false)))))) rfl rfl (by first | exact hokA1 | exact hokA0 | simp)) ?_
    refine rn 1 [(4, eS 1 (eS 1 vi) y4.2), (6, eS 1 vi y5.2), (7, vi y5.1), (46, vb ((((y3.1 == (0 : Int)) && (y3.2.2 == (13000 : Int))) && y6) && (y4.1 == (0 : Int))))] [none, none, none, none, none] ?_
    refine RegJ.op (Op1.valk (v := eS 1 (eS 1 vi) y4.2) _ _ (cy (IG 47 (.mov (.t 4)) 46 true)) rfl (by kernel_rfl) (fun hg => (.cons rfl .nil))) ?_
    rcases Bool.eq_false_or_eq_true ((((y3.1 == (0 : Int)) && (y3.2.2 == (13000 : Int))) && y6) && (y4.1 == (0 : Int))) with c2 | c2
    · have h := cond_t h c2
      refine RegJ.op (Op1.effk (v := .own 5 0 2) (ob' := [none, none, none, none, none, some (.row 1 [vi 0, vi 1])]) _ _ (cy (IG 48 (.bslice 1 (.p (.int .i64 0)) 2 [(0, (.c (.p (.int .i64 0)))), (1, (.c (.p (.int .i64 1))))]) 46 true)) (congrArg some c2) (by kernel_rfl) (.cons rfl (.cons rfl .nil))) ?_
      refine RegJ.op (Op1.effk (v := .own 6 0 1) (ob' := [none, none, none, none, none, some (.row 1 [vi 0, vi 1]), some (.row 1 [vi 0])]) _ _ (cy (IG 49 (.bslice 1 (.p (.int .i64 0)) 1 [(0, (.c (.p (.int .i64 0))))]) 46 true)) (congrArg some c2) (by kernel_rfl) (.cons rfl .nil)) ?_
      refine RegJ.sees (Sees.freeze 5 (fr' := [(4, eS 1 (eS 1 vi) y4.2), (6, eS 1 vi y5.2), (7, vi y5.1), (46, vb ((((y3.1 == (0 : Int)) && (y3.2.2 == (13000 : Int))) && y6) && (y4.1 == (0 : Int)))), (47, .cond ((((y3.1 == (0 : Int)) && (y3.2.2 == (13000 : Int))) && y6) && (y4.1 == (0 : Int))) (eS 1 (eS 1 vi) y4.2)), (48, eS 1 vi ([0, 1] : List Int)), (49, .own 6 0 1)]) (ob' := [none, none, none, none, none, none, some (.row 1 [vi 0])]) rfl (frzs_cons rfl (frzs_cons rfl frzs_nil)) (.cons (.refl _) (.cons (.refl _) (.cons (.refl _) (.cons (.refl _) (.cons (.refl _) (.cons (.own rfl (by decide)) (.cons (.refl _) .nil))))))) rfl) ?_
      refine RegJ.sees (Sees.freeze 6 (fr' := [(4, eS 1 (eS 1 vi) y4.2), (6, eS 1 vi y5.2), (7, vi y5.1), (46, vb ((((y3.1 == (0 : Int)) && (y3.2.2 == (13000 : Int))) && y6) && (y4.1 == (0 : Int)))), (47, .cond ((((y3.1 == (0 : Int)) && (y3.2.2 == (13000 : Int))) && y6) && (y4.1 == (0 : Int))) (eS 1 (eS 1 vi) y4.2)), (48, eS 1 vi ([0, 1] : List Int)), (49, eS 1 vi ([0] : List Int))]) (ob' := [none, none, none, none, none, none, none]) rfl (frzs_cons rfl frzs_nil) (.cons (.refl _) (.cons (.refl _) (.cons (.refl _) (.cons (.refl _) (.cons (.refl _) (.cons (.refl _) (.cons (.own rfl (by decide)) .nil))))))) rfl) ?_
      refine RegJ.op (Op1.effk (v := .own 7 0 2) (ob' := [none, none, none, none, none, none, none, some (.row 1 [eS 1 vi ([0, 1] : List Int), eS 1 vi ([0] : List Int)])]) _ _ (cy (IG 50 (.bslice 1 .emp 2 [(0, (.t 48)), (1, (.t 49))]) 46 true)) (congrArg some c2) (by kernel_rfl) (.cons rfl (.cons rfl .nil))) ?_
      refine RegJ.sees (Sees.freeze 7 (fr' := [(4, eS 1 (eS 1 vi) y4.2), (6, eS 1 vi y5.2), (7, vi y5.1), (46, vb ((((y3.1 == (0 : Int)) && (y3.2.2 == (13000 : Int))) && y6) && (y4.1 == (0 : Int)))), (47, .cond ((((y3.1 == (0 : Int)) && (y3.2.2 == (13000 : Int))) && y6) && (y4.1 == (0 : Int))) (eS 1 (eS 1 vi) y4.2)), (48, eS 1 vi ([0, 1] : List Int)), (49, eS 1 vi ([0] : List Int)), (50, eS 1 (eS 1 vi) ([([0, 1] : List Int), ([0] : List Int)] : List (List Int)))]) (ob' := [none, none, none, none, none, none, none, none]) rfl (frzs_cons rfl (frzs_cons rfl frzs_nil)) (.cons (.refl _) (.cons (.refl _) (.cons (.refl _) (.cons (.refl _) (.cons (.refl _) (.cons (.refl _) (.cons (.refl _) (.cons (.own rfl (by decide)) .nil)))))))) rfl) ?_
      obtain ⟨y7, hy7, h⟩ := bind_some h
      refine RegJ.op (Op1.call (y' := vb y7) (obx := []) (oby := []) (ob2 := [none, none, none, none, none, none, none, none]) _ _ (cy (IG 51 (.call 35 [(.t 47), (.t 50)]) 46 true)) (congrArg some c2) (agraffebase_Lists_ok n y4.2 ([([0, 1] : List Int), ([0] : List Int)] : List (List Int)) y7 hy7) [] (by kernel_rfl) (.cons rfl (.cons c2 (.cons rfl .nil))) (by kernel_rfl) (by kernel_rfl) ObsRen.nil (by kernel_rfl) ObsRen.nil (by kernel_rfl)) ?_
      refine RegJ.op (Op1.and (cy (I0 52 (.pick (.t 46) (.t 51) (.c (.p (.bool false)))))) rfl rfl (by first | exact hokA1 | exact hokA0 | simp)) ?_
      refine rn 1 [(6, eS 1 vi y5.2), (7, vi y5.1), (53, vb (((((y3.1 == (0 : Int)) && (y3.2.2 == (13000 : Int))) && y6) && (y4.1 == (0 : Int))) && y7))] [none, none, none, none, none, none, none, none] ?_
      refine RegJ.op (Op1.valk (v := vi y5.1) _ _ (cy (IG 54 (.mov (.t 7)) 53 true)) rfl (by kernel_rfl) (fun hg => (.cons rfl .nil))) ?_
      refine RegJ.op (Op1.valk (v := vb (y5.1 == (0 : Int))) _ _ (cy (IG 55 (.bin .eql false (.t 54) (.c (.p (.int .i64 0)))) 53 true)) rfl (by kernel_rfl) (fun hg => (.cons hg (.cons rfl .nil)))) ?_
      refine RegJ.op (Op1.and (cy (I0 56 (.pick (.t 53) (.t 55) (.c (.p (.bool false)))))) rfl rfl (by first | exact hokA1 | exact hokA0 | simp)) ?_
      refine rn 1 [(6, eS 1 vi y5.2), (57, vb ((((((y3.1 == (0 : Int)) && (y3.2.2 == (13000 : Int))) && y6) && (y4.1 == (0 : Int))) && y7) && (y5.1 == (0 : Int))))] [none, none, none, none, none, none, none, none] ?_
      refine RegJ.op (Op1.valk (v := eS 1 vi y5.2) _ _ (cy (IG 58 (.mov (.t 6)) 57 true)) rfl (by kernel_rfl) (fun hg => (.cons rfl .nil))) ?_
      rcases Bool.eq_false_or_eq_true ((((((y3.1 == (0 : Int)) && (y3.2.2 == (13000 : Int))) && y6) && (y4.1 == (0 : Int))) && y7) && (y5.1 == (0 : Int))) with c3 | c3
      · have h := cond_t h c3
        refine RegJ.op (Op1.effk (v := .own 8 0 3) (ob' := [none, none, none, none, none, none, none, none, some (.row 1 [vi 4, vi 3, vi 3])]) _ _ (cy (IG 59 (.bslice 1 (.p (.int .i64 0)) 3 [(0, (.c (.p (.int .i64 4)))), (1, (.c (.p (.int .i64 3)))), (2, (.c (.p (.int .i64 3))))]) 57 true)) (congrArg some c3) (by kernel_rfl) (.cons rfl (.cons rfl (.cons rfl .nil)))) ?_
        refine RegJ.sees (Sees.freeze 8 (fr' := [(6, eS 1 vi y5.2), (57, vb ((((((y3.1 == (0 : Int)) && (y3.2.2 == (13000 : Int))) && y6) && (y4.1 == (0 : Int))) && y7) && (y5.1 == (0 : Int)))), (58, .cond ((((((y3.1 == (0 : Int)) && (y3.2.2 == (13000 : Int))) && y6) && (y4.1 == (0 : Int))) && y7) && (y5.1 == (0 : Int))) (eS 1 vi y5.2)), (59, eS 1 vi ([4, 3, 3] : List Int))]) (ob' := [none, none, none, none, none, none, none, none, none]) rfl (frzs_cons rfl (frzs_cons rfl (frzs_cons rfl frzs_nil))) (.cons (.refl _) (.cons (.refl _) (.cons (.refl _) (.cons (.own rfl (by decide)) .nil)))) rfl) ?_
        obtain ⟨y8, hy8, h⟩ := bind_some h
        refine RegJ.op (Op1.call (y' := vb y8) (obx := []) (oby := []) (ob2 := [none, none, none, none, none, none, none, none, none]) _ _ (cy (IG 60 (.call 33 [(.t 58), (.t 59)]) 57 true)) (congrArg some c3) (agraffebase_Ints_ok n y5.2 ([4, 3, 3] : List Int) y8 hy8) [] (by kernel_rfl) (.cons rfl (.cons c3 (.cons rfl .nil))) (by kernel_rfl) (by kernel_rfl) ObsRen.nil (by kernel_rfl) ObsRen.nil (by kernel_rfl)) ?_
        refine RegJ.op (Op1.and (cy (I0 61 (.pick (.t 57) (.t 60) (.c (.p (.bool false)))))) rfl rfl (by first | exact hokA1 | exact hokA0 | simp)) ?_
        refine jq 1 [(0, vb (((((((y3.1 == (0 : Int)) && (y3.2.2 == (13000 : Int))) && y6) && (y4.1 == (0 : Int))) && y7) && (y5.1 == (0 : Int))) && y8))] [none, none, none, none, none, none, none, none, none] ?_
        exact Vs.intro (sc [] (by decide) (by kernel_rfl) ObRen.nil rfl rfl) ⟨(((((((y3.1 == (0 : Int)) && (y3.2.2 == (13000 : Int))) && y6) && (y4.1 == (0 : Int))) && y7) && (y5.1 == (0 : Int))) && y8), rfl, h⟩
      have h := cond_f h c3
      refine RegJ.op (Op1.skipc (g := (((((y3.1 == (0 : Int)) && (y3.2.2 == (13000 : Int))) && y6) && (y4.1 == (0 : Int))) && y7) && (y5.1 == (0 : Int))) (v := vb false) (by kernel_rfl : compAt _ _ _ _ = some ⟨(some 59), .bslice 1 (.p (.int .i64 0)) 3 [(0, (.c (.p (.int .i64 4)))), (1, (.c (.p (.int .i64 3)))), (2, (.c (.p (.int .i64 3))))], (some (57, true)), [(.c (.p (.int .i64 4))), (.c (.p (.int .i64 3))), (.c (.p (.int .i64 3)))], 0⟩) rfl c3) ?_
      refine RegJ.op (Op1.skipc (g := (((((y3.1 == (0 : Int)) && (y3.2.2 == (13000 : Int))) && y6) && (y4.1 == (0 : Int))) && y7) && (y5.1 == (0 : Int))) (v := vb false) (by kernel_rfl : compAt _ _ _ _ = some ⟨(some 60), .call 33 [(.t 58), (.t 59)], (some (57, true)), [(.c (.fn (.func 33) [] [])), (.t 58), (.t 59)], 2⟩) rfl c3) ?_
      refine RegJ.op (Op1.and (cy (I0 61 (.pick (.t 57) (.t 60) (.c (.p (.bool false)))))) rfl rfl (by first | exact hokA1 | exact hokA0 | simp)) ?_
      refine jq 1 [(0, vb (((((((y3.1 == (0 : Int)) && (y3.2.2 == (13000 : Int))) && y6) && (y4.1 == (0 : Int))) && y7) && (y5.1 == (0 : Int))) && false))] [none, none, none, none, none, none, none, none] ?_
      exact Vs.intro (sc [] (by decide) (by kernel_rfl) ObRen.nil rfl rfl) ⟨(((((((y3.1 == (0 : Int)) && (y3.2.2 == (13000 : Int))) && y6) && (y4.1 == (0 : Int))) && y7) && (y5.1 == (0 : Int))) && false), rfl, h⟩
    have h := cond_f h c2
    refine RegJ.op (Op1.skipc (g := (((y3.1 == (0 : Int)) && (y3.2.2 == (13000 : Int))) && y6) && (y4.1 == (0 : Int))) (v := vb false) (by kernel_rfl : compAt _ _ _ _ = some ⟨(some 48), .bslice 1 (.p (.int .i64 0)) 2 [(0, (.c (.p (.int .i64 0)))), (1, (.c (.p (.int .i64 1))))], (some (46, true)), [(.c (.p (.int .i64 0))), (.c (.p (.int .i64 1)))], 0⟩) rfl c2) ?_
    refine RegJ.op (Op1.skipc (g := (((y3.1 == (0 : Int)) && (y3.2.2 == (13000 : Int))) && y6) && (y4.1 == (0 : Int))) (v := vb false) (by kernel_rfl : compAt _ _ _ _ = some ⟨(some 49), .bslice 1 (.p (.int .i64 0)) 1 [(0, (.c (.p (.int .i64 0))))], (some (46, true)), [(.c (.p (.int .i64 0)))], 0⟩) rfl c2) ?_
    refine RegJ.op (Op1.skipc (g := (((y3.1 == (0 : Int)) && (y3.2.2 == (13000 : Int))) && y6) && (y4.1 == (0 : Int))) (v := vb false) (by kernel_rfl : compAt _ _ _ _ = some ⟨(some 50), .bslice 1 .emp 2 [(0, (.t 48)), (1, (.t 49))], (some (46, true)), [(.t 48), (.t 49)], 0⟩) rfl c2) ?_
    refine RegJ.op (Op1.skipc (g := (((y3.1 == (0 : Int)) && (y3.2.2 == (13000 : Int))) && y6) && (y4.1 == (0 : Int))) (v := vb false) (by kernel_rfl : compAt _ _ _ _ = some ⟨(some 51), .call 35 [(.t 47), (.t 50)], (some (46, true)), [(.c (.fn (.func 35) [] [])), (.t 47), (.t 50)], 2⟩) rfl c2) ?_
    refine RegJ.op (Op1.and (cy (I0 52 (.pick (.t 46) (.t 51) (.c (.p (.bool false)))))) rfl rfl (by first | exact hokA1 | exact hokA0 | simp)) ?_
    refine rn 1 [(6, eS 1 vi y5.2), (7, vi y5.1), (53, vb (((((y3.1 == (0 : Int)) && (y3.2.2 == (13000 : Int))) && y6) && (y4.1 == (0 : Int))) && false))] [none, none, none, none, none] ?_
    refine RegJ.op (Op1.valk (v := vi y5.1) _ _ (cy (IG 54 (.mov (.t 7)) 53 true)) rfl (by kernel_rfl) (fun hg => (.cons rfl .nil))) ?_
    refine RegJ.op (Op1.valk (v := vb (y5.1 == (0 : Int))) _ _ (cy (IG 55 (.bin .eql false (.t 54) (.c (.p (.int .i64 0)))) 53 true)) rfl (by kernel_rfl) (fun hg => (.cons hg (.cons rfl .nil)))) ?_
    refine RegJ.op (Op1.and (cy (I0 56 (.pick (.t 53) (.t 55) (.c (.p (.bool false)))))) rfl rfl (by first | exact hokA1 | exact hokA0 | simp)) ?_
    refine rn 1 [(6, eS 1 vi y5.2), (57, vb ((((((y3.1 == (0 : Int)) && (y3.2.2 == (13000 : Int))) && y6) && (y4.1 == (0 : Int))) && false) && (y5.1 == (0 : Int))))] [none, none, none, none, none] ?_
    refine RegJ.op (Op1.valk (v := eS 1 vi y5.2) _ _ (cy (IG 58 (.mov (.t 6)) 57 true)) rfl (by kernel_rfl) (fun hg => (.cons rfl .nil))) ?_
    rcases Bool.eq_false_or_eq_true ((((((y3.1 == (0 : Int)) && (y3.2.2 == (13000 : Int))) && y6) && (y4.1 == (0 : Int))) && false) && (y5.1 == (0 : Int))) with c4 | c4
    · have h := cond_t h c4
      refine RegJ.op (Op1.effk (v := .own 5 0 3) (ob' := [none, none, none, none, none, some (.row 1 [vi 4, vi 3, vi 3])]) _ _ (cy (IG 59 (.bslice 1 (.p (.int .i64 0)) 3 [(0, (.c (.p (.int .i64 4)))), (1, (.c (.p (.int .i64 3)))), (2, (.c (.p (.int .i64 3))))]) 57 true)) (congrArg some c4) (by kernel_rfl) (.cons rfl (.cons rfl (.cons rfl .nil)))) ?_
      refine RegJ.sees (Sees.freeze 5 (fr' := [(6, eS 1 vi y5.2), (57, vb ((((((y3.1 == (0 : Int)) && (y3.2.2 == (13000 : Int))) && y6) && (y4.1 == (0 : Int))) && false) && (y5.1 == (0 : Int)))), (58, .cond ((((((y3.1 == (0 : Int)) && (y3.2.2 == (13000 : Int))) && y6) && (y4.1 == (0 : Int))) && false) && (y5.1 == (0 : Int))) (eS 1 vi y5.2)), (59, eS 1 vi ([4, 3, 3] : List Int))]) (ob' := [none, none, none, none, none, none]) rfl (frzs_cons rfl (frzs_cons rfl (frzs_cons rfl frzs_nil))) (.cons (.refl _) (.cons (.refl _) (.cons (.refl _) (.cons (.own rfl (by decide)) .nil)))) rfl) ?_
      obtain ⟨y9, hy9, h⟩ := bind_some h
      refine RegJ.op (Op1.call (y' := vb y9) (obx := []) (oby := []) (ob2 := [none, none, none, none, none, none]) _ _ (cy (IG 60 (.call 33 [(.t 58), (.t 59)]) 57 true)) (congrArg some c4) (agraffebase_Ints_ok n y5.2 ([4, 3, 3] : List Int) y9 hy9) [] (by kernel_rfl) (.cons rfl (.cons c4 (.cons rfl .nil))) (by kernel_rfl) (by kernel_rfl) ObsRen.nil (by kernel_rfl) ObsRen.nil (by kernel_rfl)) ?_
      refine RegJ.op (Op1.and (cy (I0 61 (.pick (.t 57) (.t 60) (.c (.p (.bool false)))))) rfl rfl (by first | exact hokA1 | exact hokA0 | simp)) ?_
      refine jq 1 [(0, vb (((((((y3.1 == (0 : Int)) && (y3.2.2 == (13000 : Int))) && y6) && (y4.1 == (0 : Int))) && false) && (y5.1 == (0 : Int))) && y9))] [none, none, none, none, none, none] ?_
      exact Vs.intro (sc [] (by decide) (by kernel_rfl) ObRen.nil rfl rfl) ⟨(((((((y3.1 == (0 : Int)) && (y3.2.2 == (13000 : Int))) && y6) && (y4.1 == (0 : Int))) && false) && (y5.1 == (0 : Int))) && y9), rfl, h⟩
    have h := cond_f h c4
    refine RegJ.op (Op1.skipc (g := (((((y3.1 == (0 : Int)) && (y3.2.2 == (13000 : Int))) && y6) && (y4.1 == (0 : Int))) && false) && (y5.1 == (0 : Int))) (v := vb false) (by kernel_rfl : compAt _ _ _ _ = some ⟨(some 59), .bslice 1 (.p (.int .i64 0)) 3 [(0, (.c (.p (.int .i64 4)))), (1, (.c (.p (.int .i64 3)))), (2, (.c (.p (.int .i64 3))))], (some (57, true)), [(.c (.p (.int .i64 4))), (.c (.p (.int .i64 3))), (.c (.p (.int .i64 3)))], 0⟩) rfl c4) ?_
    refine RegJ.op (Op1.skipc (g := (((((y3.1 == (0 : Int)) && (y3.2.2 == (13000 : Int))) && y6) && (y4.1 == (0 : Int))) && false) && (y5.1 == (0 : Int))) (v := vb false) (by kernel_rfl : compAt _ _ _ _ = some ⟨(some 60), .call 33 [(.t 58), (.t 59)], (some (57, true)), [(.c (.fn (.func 33) [] [])), (.t 58), (.t 59)], 2⟩) rfl c4) ?_
    refine RegJ.op (Op1.and (cy (I0 61 (.pick (.t 57) (.t 60) (.c (.p (.bool false)))))) rfl rfl (by first | exact hokA1 | exact hokA0 | simp)) ?_
    refine jq 1 [(0, vb (((((((y3.1 == (0 : Int)) && (y3.2.2 == (13000 : Int))) && y6) && (y4.1 == (0 : Int))) && false) && (y5.1 == (0 : Int))) && false))] [none, none, none, none, none] ?_
    exact Vs.intro (sc [] (by decide) (by kernel_rfl) ObRen.nil rfl rfl) ⟨(((((((y3.1 == (0 : Int)) && (y3.2.2 == (13000 : Int))) && y6) && (y4.1 == (0 : Int))) && false) && (y5.1 == (0 : Int))) && false), rfl, h⟩
  have h := cond_f h c1
  refine RegJ.op (Op1.skipc (g := (y3.1 == (0 : Int)) && (y3.2.2 == (13000 : Int))) (v := vb false) (by kernel_rfl : compAt _ _ _ _ = some ⟨(some 39), .bslice 1 (.p (.string ⟨#[]⟩)) 4 [(0, (.c (.p (.string ⟨#[99, 108, 101, 97, 110]⟩)))), (1, (.c (.p (.string ⟨#[111, 112, 101, 110]⟩)))), (2, (.c (.p (.string ⟨#[112, 97, 116, 99, 104]⟩)))), (3, (.c (.p (.string ⟨#[116, 117, 110, 101]⟩))))], (some (37, true)), [(.c (.p (.string ⟨#[99, 108, 101, 97, 110]⟩))), (.c (.p (.string ⟨#[111, 112, 101, 110]⟩))), (.c (.p (.string ⟨#[112, 97, 116, 99, 104]⟩))), (.c (.p (.string ⟨#[116, 117, 110, 101]⟩)))], 0⟩) rfl c1) ?_
  refine RegJ.op (Op1.skipc (g := (y3.1 == (0 : Int)) && (y3.2.2 == (13000 : Int))) (v := vb false) (by kernel_rfl : compAt _ _ _ _ = some ⟨(some 40), .call 39 [(.t 38), (.t 39)], (some (37, true)), [(.c (.fn (.func 39) [] [])), (.t 38), (.t 39)], 2⟩) rfl c1) ?_
  refine RegJ.op (Op1.and (cy (I0 41 (.pick (.t 37) (.t 40) (.c (.p (.bool false)))))) rfl rfl (by first | exact hokA1 | exact hokA0 | simp)) ?_
  refine rn 1 [(4, eS 1 (eS 1 vi) y4.2), (5, vi y4.1), (6, eS 1 vi y5.2), (7, vi y5.1), (42, vb (((y3.1 == (0 : Int)) && (y3.2.2 == (13000 : Int))) && false))] [none, none, none, none] ?_
  refine RegJ.op (Op1.valk (v := vi y4.1) _ _ (cy (IG 43 (.mov (.t 5)) 42 true)) rfl (by kernel_rfl) (fun hg => (.cons rfl .nil))) ?_
  refine RegJ.op (Op1.valk (v := vb (y4.1 == (0 : Int))) _ _ (cy (IG 44 (.bin .eql false (.t 43) (.c (.p (.int .i64 0)))) 42 true)) rfl (by kernel_rfl) (fun hg => (.cons hg (.cons rfl .nil)))) ?_
  refine RegJ.op (Op1.and (cy (I0 45 (.pick (.t 42) (.t 44) (.c (.p (.bool false)))))) rfl rfl (by first | exact hokA1 | exact hokA0 | simp)) ?_
  refine rn 1 [(4, eS 1 (eS 1 vi) y4.2), (6, eS 1 vi y5.2), (7, vi y5.1), (46, vb ((((y3.1 == (0 : Int)) && (y3.2.2 == (13000 : Int))) && false) && (y4.1 == (0 : Int))))] [none, none, none, none] ?_
  refine RegJ.op (Op1.valk (v := eS 1 (eS 1 vi) y4.2) _ _ (cy (IG 47 (.mov (.t 4)) 46 true)) rfl (by kernel_rfl) (fun hg => (.cons rfl .nil))) ?_
  rcases Bool.eq_false_or_eq_true ((((y3.1 == (0 : Int)) && (y3.2.2 == (13000 : Int))) && false) && (y4.1 == (0 : Int))) with c5 | c5
  · have h := cond_t h c5
    refine RegJ.op (Op1.effk (v := .own 4 0 2) (ob' := [none, none, none, none, some (.row 1 [vi 0, vi 1])]) _ _ (cy (IG 48 (.bslice 1 (.p (.int .i64 0)) 2 [(0, (.c (.p (.int .i64 0)))), (1, (.c (.p (.int .i64 1))))]) 46 true)) (congrArg some c5) (by kernel_rfl) (.cons rfl (.cons rfl .nil))) ?_
    refine RegJ.op (Op1.effk (v := .own 5 0 1) (ob' := [none, none, none, none, some (.row 1 [vi 0, vi 1]), some (.row 1 [vi 0])]) _ _ (cy (IG 49 (.bslice 1 (.p (.int .i64 0)) 1 [(0, (.c (.p (.int .i64 0))))]) 46 true)) (congrArg some c5) (by kernel_rfl) (.cons rfl .nil)) ?_
    refine RegJ.sees (Sees.freeze 4 (fr' := [(4, eS 1 (eS 1 vi) y4.2), (6, eS 1 vi y5.2), (7, vi y5.1), (46, vb ((((y3.1 == (0 : Int)) && (y3.2.2 == (13000 : Int))) && false) && (y4.1 == (0 : Int)))), (47, .cond ((((y3.1 == (0 : Int)) && (y3.2.2 == (13000 : Int))) && false) && (y4.1 == (0 : Int))) (eS 1 (eS 1 vi) y4.2)), (48, eS 1 vi ([0, 1] : List Int)), (49, .own 5 0 1)]) (ob' := [none, none, none, none, none, some (.row 1 [vi 0])]) rfl (frzs_cons rfl (frzs_cons rfl frzs_nil)) (.cons (.refl _) (.cons (.refl _) (.cons (.refl _) (.cons (.refl _) (.cons (.refl _) (.cons (.own rfl (by decide)) (.cons (.refl _) .nil))))))) rfl) ?_
    refine RegJ.sees (Sees.freeze 5 (fr' := [(4, eS 1 (eS 1 vi) y4.2), (6, eS 1 vi y5.2), (7, vi y5.1), (46, vb ((((y3.1 == (0 : Int)) && (y3.2.2 == (13000 : Int))) && false) && (y4.1 == (0 : Int)))), (47, .cond ((((y3.1 == (0 : Int)) && (y3.2.2 == (13000 : Int))) && false) && (y4.1 == (0 : Int))) (eS 1 (eS 1 vi) y4.2)), (48, eS 1 vi ([0, 1] : List Int)), (49, eS 1 vi ([0] : List Int))]) (ob' := [none, none, none, none, none, none]) rfl (frzs_cons rfl frzs_nil) (.cons (.refl _) (.cons (.refl _) (.cons (.refl _) (.cons (.refl _) (.cons (.refl _) (.cons (.refl _) (.cons (.own rfl (by decide)) .nil))))))) rfl) ?_
    refine RegJ.op (Op1.effk (v := .own 6 0 2) (ob' := [none, none, none, none, none, none, some (.row 1 [eS 1 vi ([0, 1] : List Int), eS 1 vi ([0] : List Int)])]) _ _ (cy (IG 50 (.bslice 1 .emp 2 [(0, (.t 48)), (1, (.t 49))]) 46 true)) (congrArg some c5) (by kernel_rfl) (.cons rfl (.cons rfl .nil))) ?_
    refine RegJ.sees (Sees.freeze 6 (fr' := [(4, eS 1 (eS 1 vi) y4.2), (6, eS 1 vi y5.2), (7, vi y5.1), (46, vb ((((y3.1 == (0 : Int)) && (y3.2.2 == (13000 : Int))) && false) && (y4.1 == (0 : Int)))), (47, .cond ((((y3.1 == (0 : Int)) && (y3.2.2 == (13000 : Int))) && false) && (y4.1 == (0 : Int))) (eS 1 (eS 1 vi) y4.2)), (48, eS 1 vi ([0, 1] : List Int)), (49, eS 1 vi ([0] : List Int)), (50, eS 1 (eS 1 vi) ([([0, 1] : List Int), ([0] : List Int)] : List (List Int)))]) (ob' := [none, none, none, none, none, none, none]) rfl (frzs_cons rfl (frzs_cons rfl frzs_nil)) (.cons (.refl _) (.cons (.refl _) (.cons (.refl _) (.cons (.refl _) (.cons (.refl _) (.cons (.refl _) (.cons (.refl _) (.cons (.own rfl (by decide)) .nil)))))))) rfl) ?_
    obtain ⟨y10, hy10, h⟩ := bind_some h
    refine RegJ.op (Op1.call (y' := vb y10) (obx := []) (oby := []) (ob2 := [none, none, none, none, none, none, none]) _ _ (cy (IG 51 (.call 35 [(.t 47), (.t 50)]) 46 true)) (congrArg some c5) (agraffebase_Lists_ok n y4.2 ([([0, 1] : List Int), ([0] : List Int)] : List (List Int)) y10 hy10) [] (by kernel_rfl) (.cons rfl (.cons c5 (.cons rfl .nil))) (by kernel_rfl) (by kernel_rfl) ObsRen.nil (by kernel_rfl) ObsRen.nil (by kernel_rfl)) ?_
    refine RegJ.op (Op1.and (cy (I0 52 (.pick (.t 46) (.t 51) (.c (.p (.bool false)))))) rfl rfl (by first | exact hokA1 | exact hokA0 | simp)) ?_
    refine rn 1 [(6, eS 1 vi y5.2), (7, vi y5.1), (53, vb (((((y3.1 == (0 : Int)) && (y3.2.2 == (13000 : Int))) && false) && (y4.1 == (0 : Int))) && y10))] [none, none, none, none, none, none, none] ?_
    refine RegJ.op (Op1.valk (v := vi y5.1) _ _ (cy (IG 54 (.mov (.t 7)) 53 true)) rfl (by kernel_rfl) (fun hg => (.cons rfl .nil))) ?_
    refine RegJ.op (Op1.valk (v := vb (y5.1 == (0 : Int))) _ _ (cy (IG 55 (.bin .eql false (.t 54) (.c (.p (.int .i64 0)))) 53 true)) rfl (by kernel_rfl) (fun hg => (.cons hg (.cons rfl .nil)))) ?_
    refine RegJ.op (Op1.and (cy (I0 56 (.pick (.t 53) (.t 55) (.c (.p (.bool false)))))) rfl rfl (by first | exact hokA1 | exact hokA0 | simp)) ?_
    refine rn 1 [(6, eS 1 vi y5.2), (57, vb ((((((y3.1 == (0 : Int)) && (y3.2.2 == (13000 : Int))) && false) && (y4.1 == (0 : Int))) && y10) && (y5.1 == (0 : Int))))] [none, none, none, none, none, none, none] ?_
    refine RegJ.op (Op1.valk (v := eS 1 vi y5.2) _ _ (cy (IG 58 (.mov (.t 6)) 57 true)) rfl (by kernel_rfl) (fun hg => (.cons rfl .nil))) ?_
    rcases Bool.eq_false_or_eq_true ((((((y3.1 == (0 : Int)) && (y3.2.2 == (13000 : Int))) && false) && (y4.1 == (0 : Int))) && y10) && (y5.1 == (0 : Int))) with c6 | c6
    · have h := cond_t h c6
      refine RegJ.op (Op1.effk (v := .own 7 0 3) (ob' := [none, none, none, none, none, none, none, some (.row 1 [vi 4, vi 3, vi 3])]) _ _ (cy (IG 59 (.bslice 1 (.p (.int .i64 0)) 3 [(0, (.c (.p (.int .i64 4)))), (1, (.c (.p (.int .i64 3)))), (2, (.c (.p (.int .i64 3))))]) 57 true)) (congrArg some c6) (by kernel_rfl) (.cons rfl (.cons rfl (.cons rfl .nil)))) ?_
      refine RegJ.sees (Sees.freeze 7 (fr' := [(6, eS 1 vi y5.2), (57, vb ((((((y3.1 == (0 : Int)) && (y3.2.2 == (13000 : Int))) && false) && (y4.1 == (0 : Int))) && y10) && (y5.1 == (0 : Int)))), (58, .cond ((((((y3.1 == (0 : Int)) && (y3.2.2 == (13000 : Int))) && false) && (y4.1 == (0 : Int))) && y10) && (y5.1 == (0 : Int))) (eS 1 vi y5.2)), (59, eS 1 vi ([4, 3, 3] : List Int))]) (ob' := [none, none, none, none, none, none, none, none]) rfl (frzs_cons rfl (frzs_cons rfl (frzs_cons rfl frzs_nil))) (.cons (.refl _) (.cons (.refl _) (.cons (.refl _) (.cons (.own rfl (by decide)) .nil)))) rfl) ?_
      obtain ⟨y11, hy11, h⟩ := bind_some h
      refine RegJ.op (Op1.call (y' := vb y11) (obx := []) (oby := []) (ob2 := [none, none, none, none, none, none, none, none]) _ _ (cy (IG 60 (.call 33 [(.t 58), (.t 59)]) 57 true)) (congrArg some c6) (agraffebase_Ints_ok n y5.2 ([4, 3, 3] : List Int) y11 hy11) [] (by kernel_rfl) (.cons rfl (.cons c6 (.cons rfl .nil))) (by kernel_rfl) (by kernel_rfl) ObsRen.nil (by kernel_rfl) ObsRen.nil (by kernel_rfl)) ?_
      refine RegJ.op (Op1.and (cy (I0 61 (.pick (.t 57) (.t 60) (.c (.p (.bool false)))))) rfl rfl (by first | exact hokA1 | exact hokA0 | simp)) ?_
      refine jq 1 [(0, vb (((((((y3.1 == (0 : Int)) && (y3.2.2 == (13000 : Int))) && false) && (y4.1 == (0 : Int))) && y10) && (y5.1 == (0 : Int))) && y11))] [none, none, none, none, none, none, none, none] ?_
      exact Vs.intro (sc [] (by decide) (by kernel_rfl) ObRen.nil rfl rfl) ⟨(((((((y3.1 == (0 : Int)) && (y3.2.2 == (13000 : Int))) && false) && (y4.1 == (0 : Int))) && y10) && (y5.1 == (0 : Int))) && y11), rfl, h⟩
    have h := cond_f h c6
    refine RegJ.op (Op1.skipc (g := (((((y3.1 == (0 : Int)) && (y3.2.2 == (13000 : Int))) && false) && (y4.1 == (0 : Int))) && y10) && (y5.1 == (0 : Int))) (v := vb false) (by kernel_rfl : compAt _ _ _ _ = some ⟨(some 59), .bslice 1 (.p (.int .i64 0)) 3 [(0, (.c (.p (.int .i64 4)))), (1, (.c (.p (.int .i64 3)))), (2, (.c (.p (.int .i64 3))))], (some (57, true)), [(.c (.p (.int .i64 4))), (.c (.p (.int .i64 3))), (.c (.p (.int .i64 3)))], 0⟩) rfl c6) ?_
    refine RegJ.op (Op1.skipc (g := (((((y3.1 == (0 : Int)) && (y3.2.2 == (13000 : Int))) && false) && (y4.1 == (0 : Int))) && y10) && (y5.1 == (0 : Int))) (v := vb false) (by kernel_rfl : compAt _ _ _ _ = some ⟨(some 60), .call 33 [(.t 58), (.t 59)], (some (57, true)), [(.c (.fn (.func 33) [] [])), (.t 58), (.t 59)], 2⟩) rfl c6) ?_
    refine RegJ.op (Op1.and (cy (I0 61 (.pick (.t 57) (.t 60) (.c (.p (.bool false)))))) rfl rfl (by first | exact hokA1 | exact hokA0 | simp)) ?_
    refine jq 1 [(0, vb (((((((y3.1 == (0 : Int)) && (y3.2.2 == (13000 : Int))) && false) && (y4.1 == (0 : Int))) && y10) && (y5.1 == (0 : Int))) && false))] [none, none, none, none, none, none, none] ?_
    exact Vs.intro (sc [] (by decide) (by kernel_rfl) ObRen.nil rfl rfl) ⟨(((((((y3.1 == (0 : Int)) && (y3.2.2 == (13000 : Int))) && false) && (y4.1 == (0 : Int))) && y10) && (y5.1 == (0 : Int))) && false), rfl, h⟩
  have h := cond_f h c5
  refine RegJ.op (Op1.skipc (g := (((y3.1 == (0 : Int)) && (y3.2.2 == (13000 : Int))) && false) && (y4.1 == (0 : Int))) (v := vb false) (by kernel_rfl : compAt _ _ _ _ = some ⟨(some 48), .bslice 1 (.p (.int .i64 0)) 2 [(0, (.c (.p (.int .i64 0)))), (1, (.c (.p (.int .i64 1))))], (some (46, true)), [(.c (.p (.int .i64 0))), (.c (.p (.int .i64 1)))], 0⟩) rfl c5) ?_
  refine RegJ.op (Op1.skipc (g := (((y3.1 == (0 : Int)) && (y3.2.2 == (13000 : Int))) && false) && (y4.1 == (0 : Int))) (v := vb false) (by kernel_rfl : compAt _ _ _ _ = some ⟨(some 49), .bslice 1 (.p (.int .i64 0)) 1 [(0, (.c (.p (.int .i64 0))))], (some (46, true)), [(.c (.p (.int .i64 0)))], 0⟩) rfl c5) ?_
  refine RegJ.op (Op1.skipc (g := (((y3.1 == (0 : Int)) && (y3.2.2 == (13000 : Int))) && false) && (y4.1 == (0 : Int))) (v := vb false) (by kernel_rfl : compAt _ _ _ _ = some ⟨(some 50), .bslice 1 .emp 2 [(0, (.t 48)), (1, (.t 49))], (some (46, true)), [(.t 48), (.t 49)], 0⟩) rfl c5) ?_
  refine RegJ.op (Op1.skipc (g := (((y3.1 == (0 : Int)) && (y3.2.2 == (13000 : Int))) && false) && (y4.1 == (0 : Int))) (v := vb false) (by kernel_rfl : compAt _ _ _ _ = some ⟨(some 51), .call 35 [(.t 47), (.t 50)], (some (46, true)), [(.c (.fn (.func 35) [] [])), (.t 47), (.t 50)], 2⟩) rfl c5) ?_
  refine RegJ.op (Op1.and (cy (I0 52 (.pick (.t 46) (.t 51) (.c (.p (.bool false)))))) rfl rfl (by first | exact hokA1 | exact hokA0 | simp)) ?_
  refine rn 1 [(6, eS 1 vi y5.2), (7, vi y5.1), (53, vb (((((y3.1 == (0 : Int)) && (y3.2.2 == (13000 : Int))) && false) && (y4.1 == (0 : Int))) && false))] [none, none, none, none] ?_
  refine RegJ.op (Op1.valk (v := vi y5.1) _ _ (cy (IG 54 (.mov (.t 7)) 53 true)) rfl (by kernel_rfl) (fun hg => (.cons rfl .nil))) ?_
  refine RegJ.op (Op1.valk (v := vb (y5.1 == (0 : Int))) _ _ (cy (IG 55 (.bin .eql false (.t 54) (.c (.p (.int .i64 0)))) 53 true)) rfl (by kernel_rfl) (fun hg => (.cons hg (.cons rfl .nil)))) ?_
  refine RegJ.op (Op1.and (cy (I0 56 (.pick (.t 53) (.t 55) (.c (.p (.bool false)))))) rfl rfl (by first | exact hokA1 | exact hokA0 | simp)) ?_
  refine rn 1 [(6, eS 1 vi y5.2), (57, vb ((((((y3.1 == (0 : Int)) && (y3.2.2 == (13000 : Int))) && false) && (y4.1 == (0 : Int))) && false) && (y5.1 == (0 : Int))))] [none, none, none, none] ?_
  refine RegJ.op (Op1.valk (v := eS 1 vi y5.2) _ _ (cy (IG 58 (.mov (.t 6)) 57 true)) rfl (by kernel_rfl) (fun hg => (.cons rfl .nil))) ?_
  rcases Bool.eq_false_or_eq_true ((((((y3.1 == (0 : Int)) && (y3.2.2 == (13000 : Int))) && false) && (y4.1 == (0 : Int))) && false) && (y5.1 == (0 : Int))) with c7 | c7
  · have h := cond_t h c7
    refine RegJ.op (Op1.effk (v := .own 4 0 3) (ob' := [none, none, none, none, some (.row 1 [vi 4, vi 3, vi 3])]) _ _ (cy (IG 59 (.bslice 1 (.p (.int .i64 0)) 3 [(0, (.c (.p (.int .i64 4)))), (1, (.c (.p (.int .i64 3)))), (2, (.c (.p (.int .i64 3))))]) 57 true)) (congrArg some c7) (by kernel_rfl) (.cons rfl (.cons rfl (.cons rfl .nil)))) ?_
    refine RegJ.sees (Sees.freeze 4 (fr' := [(6, eS 1 vi y5.2), (57, vb ((((((y3.1 == (0 : Int)) && (y3.2.2 == (13000 : Int))) && false) && (y4.1 == (0 : Int))) && false) && (y5.1 == (0 : Int)))), (58, .cond ((((((y3.1 == (0 : Int)) && (y3.2.2 == (13000 : Int))) && false) && (y4.1 == (0 : Int))) && false) && (y5.1 == (0 : Int))) (eS 1 vi y5.2)), (59, eS 1 vi ([4, 3, 3] : List Int))]) (ob' := [none, none, none, none, none]) rfl (frzs_cons rfl (frzs_cons rfl (frzs_cons rfl frzs_nil))) (.cons (.refl _) (.cons (.refl _) (.cons (.refl _) (.cons (.own rfl (by decide)) .nil)))) rfl) ?_
    obtain ⟨y12, hy12, h⟩ := bind_some h
    refine RegJ.op (Op1.call (y' := vb y12) (obx := []) (oby := []) (ob2 := [none, none, none, none, none]) _ _ (cy (IG 60 (.call 33 [(.t 58), (.t 59)]) 57 true)) (congrArg some c7) (agraffebase_Ints_ok n y5.2 ([4, 3, 3] : List Int) y12 hy12) [] (by kernel_rfl) (.cons rfl (.cons c7 (.cons rfl .nil))) (by kernel_rfl) (by kernel_rfl) ObsRen.nil (by kernel_rfl) ObsRen.nil (by kernel_rfl)) ?_
    refine RegJ.op (Op1.and (cy (I0 61 (.pick (.t 57) (.t 60) (.c (.p (.bool false)))))) rfl rfl (by first | exact hokA1 | exact hokA0 | simp)) ?_
    refine jq 1 [(0, vb (((((((y3.1 == (0 : Int)) && (y3.2.2 == (13000 : Int))) && false) && (y4.1 == (0 : Int))) && false) && (y5.1 == (0 : Int))) && y12))] [none, none, none, none, none] ?_
    exact Vs.intro (sc [] (by decide) (by kernel_rfl) ObRen.nil rfl rfl) ⟨(((((((y3.1 == (0 : Int)) && (y3.2.2 == (13000 : Int))) && false) && (y4.1 == (0 : Int))) && false) && (y5.1 == (0 : Int))) && y12), rfl, h⟩
  have h := cond_f h c7
  refine RegJ.op (Op1.skipc (g := (((((y3.1 == (0 : Int)) && (y3.2.2 == (13000 : Int))) && false) && (y4.1 == (0 : Int))) && false) && (y5.1 == (0 : Int))) (v := vb false) (by kernel_rfl : compAt _ _ _ _ = some ⟨(some 59), .bslice 1 (.p (.int .i64 0)) 3 [(0, (.c (.p (.int .i64 4)))), (1, (.c (.p (.int .i64 3)))), (2, (.c (.p (.int .i64 3))))], (some (57, true)), [(.c (.p (.int .i64 4))), (.c (.p (.int .i64 3))), (.c (.p (.int .i64 3)))], 0⟩) rfl c7) ?_
  refine RegJ.op (Op1.skipc (g := (((((y3.1 == (0 : Int)) && (y3.2.2 == (13000 : Int))) && false) && (y4.1 == (0 : Int))) && false) && (y5.1 == (0 : Int))) (v := vb false) (by kernel_rfl : compAt _ _ _ _ = some ⟨(some 60), .call 33 [(.t 58), (.t 59)], (some (57, true)), [(.c (.fn (.func 33) [] [])), (.t 58), (.t 59)], 2⟩) rfl c7) ?_
  refine RegJ.op (Op1.and (cy (I0 61 (.pick (.t 57) (.t 60) (.c (.p (.bool false)))))) rfl rfl (by first | exact hokA1 | exact hokA0 | simp)) ?_
  refine jq 1 [(0, vb (((((((y3.1 == (0 : Int)) && (y3.2.2 == (13000 : Int))) && false) && (y4.1 == (0 : Int))) && false) && (y5.1 == (0 : Int))) && false))] [none, none, none, none] ?_
  exact Vs.intro (sc [] (by decide) (by kernel_rfl) ObRen.nil rfl rfl) ⟨(((((((y3.1 == (0 : Int)) && (y3.2.2 == (13000 : Int))) && false) && (y4.1 == (0 : Int))) && false) && (y5.1 == (0 : Int))) && false), rfl, h⟩
end Go.Proofs.YtcdcpambkdlhjaaGreat.As
