/- The code computes what the plain functions say, part 2: no condition. -/
import Derived.Test.YtcdcpambkdlhjaaGreatWalk1
namespace Go.Proofs.YtcdcpambkdlhjaaGreat.As
open Go Go.Proofs
set_option maxRecDepth 4000
theorem agrafferef08_Leads_ok (n : Nat) (a0 : Task) (r : (List Str)) (h : agrafferef08_Leads n a0 = some r) : FnL Tryz.prog 80 [.agg [vt a0.Name, vi a0.Cents, vi a0.Hours, eS 1 vt a0.Needs, eS 1 (eS 1 vt) a0.OneOf, eS 2 ePartCount a0.Parts]] [] (eS 1 vt r) [] := by
  dsimp only [agrafferef08_Leads] at h
  refine FnL.ofS (ts := [2]) Tryz.call80 Tryz.func80 rfl rfl (Nat.le_of_ble_eq_true rfl) (Nat.le_of_ble_eq_true rfl) (fun j h => absurd h (Nat.not_lt_zero j)) ?_
  refine sr [(1, .ptr 0 0 0)] [some (.row 6 [.agg [vt a0.Name, vi a0.Cents, vi a0.Hours, eS 1 vt a0.Needs, eS 1 (eS 1 vt) a0.OneOf, eS 2 ePartCount a0.Parts]])] ?_
  refine sj ?_
  refine rn 2 [(1, .ptr 0 0 0), (6, eS 1 vt a0.Needs)] [some (.row 6 [.agg [vt a0.Name, vi a0.Cents, vi a0.Hours, eS 1 vt a0.Needs, eS 1 (eS 1 vt) a0.OneOf, eS 2 ePartCount a0.Parts]])] ?_
  obtain ⟨y1, hy1, h⟩ := bind_some h
  refine RegJ.op (Op1.call (y' := .own 1 0 a0.Needs.length) (obx := []) (oby := [some (.row 1 (List.map vt a0.Needs))]) (ob2 := [some (.row 6 [.agg [vt a0.Name, vi a0.Cents, vi a0.Hours, eS 1 vt a0.Needs, eS 1 (eS 1 vt) a0.OneOf, eS 2 ePartCount a0.Parts]]), some (.row 1 (List.map vt a0.Needs))]) _ _ (cy (I0 7 (.call 18 [(.t 6)]))) rfl (agraffebase_CopyTexts_2_ok n a0.Needs y1 hy1) [] (by kernel_rfl) (.cons rfl (.cons rfl .nil)) (by kernel_rfl) (by kernel_rfl) ObsRen.nil (by kernel_rfl) (.same (row_ren vt_frz _ _ _) .nil) (by kernel_rfl)) ?_
  refine jq 1 [(1, .ptr 0 0 0), (3, .own 1 0 a0.Needs.length)] [some (.row 6 [.agg [vt a0.Name, vi a0.Cents, vi a0.Hours, eS 1 vt a0.Needs, eS 1 (eS 1 vt) a0.OneOf, eS 2 ePartCount a0.Parts]]), some (.row 1 (List.map vt a0.Needs))] ?_
  refine TriE.seqK h (fun (v4 : (List Str)) => St.mk [(3, .own 0 0 v4.length)] [some (.row 1 (List.map vt v4))]) ?_ ?_
  · rintro v4 h
    refine sr [(2, .own 0 0 v4.length)] [some (.row 1 (List.map vt v4))] ?_
    refine TriE.ret ?_
    have h := Option.some.inj h
    subst h
    exact DoneS.ret (S' := ⟨[(2, eS 1 vt v4)], []⟩) (Sees.trans (Sees.freeze 0 (fr' := [(2, eS 1 vt v4)]) (ob' := [none]) rfl (frz_row vt_frzE _) (.cons (frz_full rfl) .nil) rfl) (sc [] (by decide) (by kernel_rfl) ObRen.nil rfl rfl)) rfl rfl
  intro k1 h
  refine sr [(1, .ptr 0 0 0), (3, .own 1 0 a0.Needs.length), (4, vi 0)] [some (.row 6 [.agg [vt a0.Name, vi a0.Cents, vi a0.Hours, eS 1 vt a0.Needs, eS 1 (eS 1 vt) a0.OneOf, eS 2 ePartCount a0.Parts]]), some (.row 1 (List.map vt a0.Needs))] ?_
  refine TriE.block ?_
  refine TriE.sees (S' := ⟨[(1, .ptr 0 0 0), (3, .own 1 0 a0.Needs.length), (4, vi 0)], [some (.row 6 [.agg [vt a0.Name, vi a0.Cents, vi a0.Hours, eS 1 vt a0.Needs, eS 1 (eS 1 vt) a0.OneOf, eS 2 ePartCount a0.Parts]]), some (.row 1 (List.map vt a0.Needs))]⟩) sy ?_
  refine TriE.loopN h (fun (t : Nat × (List Str)) => match t with | (v2, v3) => St.mk [(1, .ptr 0 0 0), (3, .own 1 0 v3.length), (4, vi v2)] [some (.row 6 [.agg [vt a0.Name, vi a0.Cents, vi a0.Hours, eS 1 vt a0.Needs, eS 1 (eS 1 vt) a0.OneOf, eS 2 ePartCount a0.Parts]]), some (.row 1 (List.map vt v3))]) rfl ?_
  clear h
  rintro back ⟨v2, v3⟩ h
  dsimp only [agrafferef08_Leads_L1] at h
  refine TriE.seq ?_
  refine sj ?_
  refine rn 3 [(1, .ptr 0 0 0), (3, .own 1 0 v3.length), (4, vi v2), (8, vi v2), (10, eS 1 (eS 1 vt) a0.OneOf)] [some (.row 6 [.agg [vt a0.Name, vi a0.Cents, vi a0.Hours, eS 1 vt a0.Needs, eS 1 (eS 1 vt) a0.OneOf, eS 2 ePartCount a0.Parts]]), some (.row 1 (List.map vt v3))] ?_
  refine jv (vi ((a0.OneOf.length : Nat) : Int)) (cy (I0 11 (.len 0 (.t 10)))) (ok_len_m rfl) rfl ?_
  refine jv (vb (decide (v2 < a0.OneOf.length))) (cy (I0 12 (.bin .lss false (.t 8) (.t 11)))) (n_lss (i := v2) (j := a0.OneOf.length) rfl rfl) rfl ?_
  refine jp [(1, .ptr 0 0 0), (3, .own 1 0 v3.length), (4, vi v2), (12, vb (decide (v2 < a0.OneOf.length)))] ?_
  refine TriE.cond (b := decide (v2 < a0.OneOf.length)) rfl (fun c1 => ?_) (fun c1 => ?_)
  · have h := cond_t h c1
    refine TriE.skip ?_
    refine TriE.seq ?_
    refine TriE.block ?_
    refine TriE.regJ ?_
    refine rn 4 [(1, .ptr 0 0 0), (4, vi v2), (15, .own 1 0 v3.length), (17, eS 1 (eS 1 vt) a0.OneOf), (18, vi v2)] [some (.row 6 [.agg [vt a0.Name, vi a0.Cents, vi a0.Hours, eS 1 vt a0.Needs, eS 1 (eS 1 vt) a0.OneOf, eS 2 ePartCount a0.Parts]]), some (.row 1 (List.map vt v3))] ?_
    refine jv (.fptr 1 (List.map (eS 1 vt) a0.OneOf) v2 0) (cy (I0 19 (.iaddr 1 (.t 17) (.t 18)))) (ok_iaddr_m (j := v2) rfl rfl rfl c1) rfl ?_
    refine jv (eS 1 vt (ix a0.OneOf v2)) (cy (I0 20 (.load false 1 (.t 19)))) (ok_load_fm (v := eS 1 vt (ix a0.OneOf v2)) rfl c1 rfl) rfl ?_
    obtain ⟨c2, h⟩ := chk_some h
    refine je (.own 2 0 ((v3 ++ (ix a0.OneOf v2)).length)) [some (.row 6 [.agg [vt a0.Name, vi a0.Cents, vi a0.Hours, eS 1 vt a0.Needs, eS 1 (eS 1 vt) a0.OneOf, eS 2 ePartCount a0.Parts]]), none, some (.row 1 (List.map vt (v3 ++ (ix a0.OneOf v2))))] (cy (I0 21 (.app 1 16 (.t 15) (.t 20)))) (ok_app_own (l := v3) (l2 := (ix a0.OneOf v2)) (e := vt) (u := eS 1 vt (ix a0.OneOf v2)) rfl rfl rfl rfl els_sl c2) rfl rfl rfl ?_
    refine jq 1 [(1, .ptr 0 0 0), (4, vi v2), (3, .own 2 0 ((v3 ++ (ix a0.OneOf v2)).length))] [some (.row 6 [.agg [vt a0.Name, vi a0.Cents, vi a0.Hours, eS 1 vt a0.Needs, eS 1 (eS 1 vt) a0.OneOf, eS 2 ePartCount a0.Parts]]), none, some (.row 1 (List.map vt (v3 ++ (ix a0.OneOf v2))))] ?_
    refine TriE.regJ ?_
    refine rn 1 [(1, .ptr 0 0 0), (3, .own 2 0 ((v3 ++ (ix a0.OneOf v2)).length)), (13, vi v2)] [some (.row 6 [.agg [vt a0.Name, vi a0.Cents, vi a0.Hours, eS 1 vt a0.Needs, eS 1 (eS 1 vt) a0.OneOf, eS 2 ePartCount a0.Parts]]), none, some (.row 1 (List.map vt (v3 ++ (ix a0.OneOf v2))))] ?_
    obtain ⟨c3, h⟩ := chk_some h
    refine jv (vi ((v2 + 1 : Nat) : Int)) (cy (I0 14 (.bin .add false (.t 13) (.c (.p (.int .i64 1)))))) (r_addn (i := v2) (j := 1) rfl rfl c3) rfl ?_
    refine jq 1 [(1, .ptr 0 0 0), (3, .own 2 0 ((v3 ++ (ix a0.OneOf v2)).length)), (4, vi ((v2 + 1 : Nat) : Int))] [some (.row 6 [.agg [vt a0.Name, vi a0.Cents, vi a0.Hours, eS 1 vt a0.Needs, eS 1 (eS 1 vt) a0.OneOf, eS 2 ePartCount a0.Parts]]), none, some (.row 1 (List.map vt (v3 ++ (ix a0.OneOf v2))))] ?_
    exact Vs.intro (sc [0, 2] (by decide) (by kernel_rfl) (.cons rfl (obRen_row vt_frz rfl .nil)) rfl rfl) ⟨(v2 + 1, (v3 ++ (ix a0.OneOf v2))), rfl, h⟩
  have h := cond_f h c1
  refine TriE.exit ?_
  exact Vs.intro (sc [1] (by decide) (by kernel_rfl) (obRen_row vt_frz rfl .nil) rfl rfl) ⟨v3, rfl, h⟩
theorem agraffebase_HasText_2_ok (n : Nat) (a0 : List Str) (a1 : Str) (r : Bool) (h : agraffebase_HasText_2 n a0 a1 = some r) : FnL Tryz.prog 81 [.own 0 0 a0.length, vt a1] [some (.row 1 (List.map vt a0))] (vb r) [some (.row 1 (List.map vt a0))] := by
  dsimp only [agraffebase_HasText_2] at h
  refine FnL.ofS (ts := [4]) Tryz.call81 Tryz.func81 rfl rfl (Nat.le_of_ble_eq_true rfl) (Nat.le_of_ble_eq_true rfl) (hall_of (.cons rfl .nil)) ?_
  refine sr [(0, .own 0 0 a0.length), (1, vt a1)] [some (.row 1 (List.map vt a0))] ?_
  refine TriE.seqK h (fun (_ : Unit) => St.mk [] [some (.row 1 (List.map vt a0))]) ?_ ?_
  · rintro ⟨⟩ h
    refine sr [(4, vb false)] [some (.row 1 (List.map vt a0))] ?_
    refine TriE.ret ?_
    have h := Option.some.inj h
    subst h
    exact DoneS.ret (S' := ⟨[(4, vb false)], [some (.row 1 (List.map vt a0))]⟩) Sees.refl rfl rfl
  intro k1 h
  refine sr [(0, .own 0 0 a0.length), (1, vt a1), (5, vi 0)] [some (.row 1 (List.map vt a0))] ?_
  refine TriE.block ?_
  refine TriE.sees (S' := ⟨[(0, .own 0 0 a0.length), (1, vt a1), (5, vi 0)], [some (.row 1 (List.map vt a0))]⟩) sy ?_
  refine TriE.loopN h (fun (v1 : Nat) => St.mk [(0, .own 0 0 a0.length), (1, vt a1), (5, vi v1)] [some (.row 1 (List.map vt a0))]) rfl ?_
  clear h
  rintro back v1 h
  dsimp only [agraffebase_HasText_2_L1] at h
  refine TriE.seq ?_
  refine sj ?_
  refine rn 3 [(0, .own 0 0 a0.length), (1, vt a1), (5, vi v1), (6, vi v1), (8, vi (a0.length : Int))] [some (.row 1 (List.map vt a0))] ?_
  refine jv (vb (decide (v1 < a0.length))) (cy (I0 9 (.bin .lss false (.t 6) (.t 8)))) (n_lss (i := v1) (j := a0.length) rfl rfl) rfl ?_
  refine jp [(0, .own 0 0 a0.length), (1, vt a1), (5, vi v1), (9, vb (decide (v1 < a0.length)))] ?_
  refine TriE.cond (b := decide (v1 < a0.length)) rfl (fun c1 => ?_) (fun c1 => ?_)
  · have h := cond_t h c1
    refine TriE.skip ?_
    refine TriE.seq ?_
    refine TriE.block ?_
    refine sj ?_
    refine rn 2 [(0, .own 0 0 a0.length), (1, vt a1), (5, vi v1), (12, .own 0 0 a0.length), (13, vi v1)] [some (.row 1 (List.map vt a0))] ?_
    refine jv (.ptr 0 v1 0) (cy (I0 14 (.iaddr 1 (.t 12) (.t 13)))) (ok_iaddr_o0 (j := v1) rfl rfl rfl rfl c1) rfl ?_
    refine jv (vt (ix a0 v1)) (cy (I0 15 (.load false 1 (.t 14)))) (ok_load_pm (l := a0) (e := vt) (v := vt (ix a0 v1)) rfl rfl c1 rfl) rfl ?_
    refine jq 2 [(0, .own 0 0 a0.length), (1, vt a1), (5, vi v1), (17, vb ((ix a0 v1) == a1))] [some (.row 1 (List.map vt a0))] ?_
    refine TriE.cond (b := ((ix a0 v1) == a1)) rfl (fun c2 => ?_) (fun c2 => ?_)
    · have h := cond_t h c2
      refine sr [(4, vb true)] [some (.row 1 (List.map vt a0))] ?_
      refine TriE.ret ?_
      have h := Option.some.inj h
      subst h
      exact DoneS.ret (S' := ⟨[(4, vb true)], [some (.row 1 (List.map vt a0))]⟩) Sees.refl rfl rfl
    have h := cond_f h c2
    refine TriE.skip ?_
    refine TriE.regJ ?_
    refine rn 1 [(0, .own 0 0 a0.length), (1, vt a1), (10, vi v1)] [some (.row 1 (List.map vt a0))] ?_
    obtain ⟨c3, h⟩ := chk_some h
    refine jv (vi ((v1 + 1 : Nat) : Int)) (cy (I0 11 (.bin .add false (.t 10) (.c (.p (.int .i64 1)))))) (r_addn (i := v1) (j := 1) rfl rfl c3) rfl ?_
    refine jq 1 [(0, .own 0 0 a0.length), (1, vt a1), (5, vi ((v1 + 1 : Nat) : Int))] [some (.row 1 (List.map vt a0))] ?_
    exact Vs.intro sy ⟨(v1 + 1), rfl, h⟩
  have h := cond_f h c1
  refine TriE.exit ?_
  exact Vs.intro sy ⟨(), rfl, h⟩
theorem agrafferef08_Order_ok (n : Nat) (a0 : List Task) (a1 : List Str) (r : (List Str)) (h : agrafferef08_Order n a0 a1 = some r) : FnL Tryz.prog 78 [eS 6 eTask a0, eS 1 vt a1] [] (eS 1 vt r) [] := by
  dsimp only [agrafferef08_Order] at h
  refine FnL.ofS (ts := [4]) Tryz.call78 Tryz.func78 rfl rfl (Nat.le_of_ble_eq_true rfl) (Nat.le_of_ble_eq_true rfl) (fun j h => absurd h (Nat.not_lt_zero j)) ?_
  refine sr [(0, eS 6 eTask a0), (1, eS 1 vt a1)] [] ?_
  refine sr [(0, eS 6 eTask a0), (1, eS 1 vt a1), (5, .emp)] [] ?_
  refine TriE.block ?_
  refine TriE.sees (S' := ⟨[(0, eS 6 eTask a0), (1, eS 1 vt a1), (5, .own 0 0 ([] : List Str).length)], [some (.row 1 (List.map vt ([] : List Str)))]⟩) (Sees.trans (Sees.co (fr' := [(0, eS 6 eTask a0), (1, eS 1 vt a1), (5, .own 0 0 0)]) (ob' := []) (.cons .same (.cons .same (.cons .own .nil))) ObCo.nil 1) sy) ?_
  refine TriE.loopN h (fun (v26 : (List Str)) => St.mk [(0, eS 6 eTask a0), (1, eS 1 vt a1), (5, .own 0 0 v26.length)] [some (.row 1 (List.map vt v26))]) rfl ?_
  clear h
  rintro back v26 h
  dsimp only [agrafferef08_Order_L3] at h
  refine TriE.block ?_
  refine sr [(0, eS 6 eTask a0), (1, eS 1 vt a1), (5, .own 0 0 v26.length), (6, vi (-1))] [some (.row 1 (List.map vt v26))] ?_
  refine TriE.seqK h (fun (v51 : Int) => St.mk [(0, eS 6 eTask a0), (1, eS 1 vt a1), (5, .own 0 0 v26.length), (6, vi v51)] [some (.row 1 (List.map vt v26))]) ?_ ?_
  · rintro v51 h
    refine TriE.seq ?_
    refine sr [(0, eS 6 eTask a0), (1, eS 1 vt a1), (5, .own 0 0 v26.length), (6, vi v51), (70, vb (decide (v51 < (0 : Int))))] [some (.row 1 (List.map vt v26))] ?_
    refine TriE.cond (b := decide (v51 < (0 : Int))) rfl (fun c8 => ?_) (fun c8 => ?_)
    · have h := cond_t h c8
      refine sr [(4, .own 0 0 v26.length)] [some (.row 1 (List.map vt v26))] ?_
      refine TriE.ret ?_
      have h := Option.some.inj h
      subst h
      exact DoneS.ret (S' := ⟨[(4, eS 1 vt v26)], []⟩) (Sees.trans (Sees.freeze 0 (fr' := [(4, eS 1 vt v26)]) (ob' := [none]) rfl (frz_row vt_frzE _) (.cons (frz_full rfl) .nil) rfl) (sc [] (by decide) (by kernel_rfl) ObRen.nil rfl rfl)) rfl rfl
    have h := cond_f h c8
    refine TriE.skip ?_
    refine TriE.regJ ?_
    refine rn 3 [(0, eS 6 eTask a0), (1, eS 1 vt a1), (72, .own 0 0 v26.length), (73, eS 6 eTask a0), (74, vi v51)] [some (.row 1 (List.map vt v26))] ?_
    obtain ⟨c9, h⟩ := chk_some h
    refine jv (.fptr 6 (List.map eTask a0) v51.toNat 0) (cy (I0 75 (.iaddr 6 (.t 73) (.t 74)))) (ok_iaddr_m (j := v51.toNat) rfl rfl (inB_to c9) (inB_lt c9)) rfl ?_
    refine rn 1 [(0, eS 6 eTask a0), (1, eS 1 vt a1), (72, .own 0 0 v26.length), (76, .fptr 6 (List.map eTask a0) v51.toNat 0)] [some (.row 1 (List.map vt v26))] ?_
    obtain ⟨c10, h⟩ := chk_some h
    refine jv (vt ((ix a0 v51.toNat).Name)) (cy (I0 77 (.load false 1 (.t 76)))) (ok_load_fm (v := vt ((ix a0 v51.toNat).Name)) rfl c10 rfl) rfl ?_
    refine rn 1 [(0, eS 6 eTask a0), (1, eS 1 vt a1), (72, .own 0 0 v26.length), (78, .own 1 0 1)] [some (.row 1 (List.map vt v26)), some (.row 1 [vt ((ix a0 v51.toNat).Name)])] ?_
    obtain ⟨c11, h⟩ := chk_some h
    refine je (.own 2 0 ((v26 ++ ([(ix a0 v51.toNat).Name] : List Str)).length)) [none, some (.row 1 [vt ((ix a0 v51.toNat).Name)]), some (.row 1 (List.map vt (v26 ++ ([(ix a0 v51.toNat).Name] : List Str))))] (cy (I0 79 (.app 1 16 (.t 72) (.t 78)))) (ok_app_own (l := v26) (l2 := ([(ix a0 v51.toNat).Name] : List Str)) (e := vt) (u := .own 1 0 1) rfl rfl rfl rfl rfl c11) rfl rfl rfl ?_
    refine jq 1 [(0, eS 6 eTask a0), (1, eS 1 vt a1), (5, .own 2 0 ((v26 ++ ([(ix a0 v51.toNat).Name] : List Str)).length))] [none, some (.row 1 [vt ((ix a0 v51.toNat).Name)]), some (.row 1 (List.map vt (v26 ++ ([(ix a0 v51.toNat).Name] : List Str))))] ?_
    exact Vs.intro (sc [2] (by decide) (by kernel_rfl) (obRen_row vt_frz rfl .nil) rfl rfl) ⟨(v26 ++ ([(ix a0 v51.toNat).Name] : List Str)), rfl, h⟩
  intro k3 h
  refine sr [(0, eS 6 eTask a0), (1, eS 1 vt a1), (5, .own 0 0 v26.length), (6, vi (-1)), (7, vi 0)] [some (.row 1 (List.map vt v26))] ?_
  refine TriE.block ?_
  refine TriE.sees (S' := ⟨[(0, eS 6 eTask a0), (1, eS 1 vt a1), (5, .own 0 0 v26.length), (6, vi (-1)), (7, vi 0)], [some (.row 1 (List.map vt v26))]⟩) sy ?_
  refine TriE.loopN h (fun (t : Int × Nat) => match t with | (v38, v39) => St.mk [(0, eS 6 eTask a0), (1, eS 1 vt a1), (5, .own 0 0 v26.length), (6, vi v38), (7, vi v39)] [some (.row 1 (List.map vt v26))]) rfl ?_
  clear h
  rintro back ⟨v38, v39⟩ h
  dsimp only [agrafferef08_Order_L2] at h
  refine TriE.seq ?_
  refine sj ?_
  refine rn 2 [(0, eS 6 eTask a0), (1, eS 1 vt a1), (5, .own 0 0 v26.length), (6, vi v38), (7, vi v39), (11, vi v39), (12, eS 6 eTask a0)] [some (.row 1 (List.map vt v26))] ?_
  refine jv (vi (a0.length : Int)) (cy (I0 13 (.len 0 (.t 12)))) (ok_len_m rfl) rfl ?_
  refine jv (vb (decide (v39 < a0.length))) (cy (I0 14 (.bin .lss false (.t 11) (.t 13)))) (n_lss (i := v39) (j := a0.length) rfl rfl) rfl ?_
  refine rn 1 [(0, eS 6 eTask a0), (1, eS 1 vt a1), (5, .own 0 0 v26.length), (6, vi v38), (7, vi v39), (15, vb (decide (v39 < a0.length)))] [some (.row 1 (List.map vt v26))] ?_
  refine RegJ.op (Op1.valk (v := vi v38) _ _ (cy (IG 16 (.mov (.t 6)) 15 true)) rfl (by kernel_rfl) (fun hg => (.cons rfl .nil))) ?_
  refine RegJ.op (Op1.valk (v := vb (decide (v38 < (0 : Int)))) _ _ (cy (IG 17 (.bin .lss false (.t 16) (.c (.p (.int .i64 0)))) 15 true)) rfl (by kernel_rfl) (fun hg => (.cons hg (.cons rfl .nil)))) ?_
  refine RegJ.op (Op1.and (cy (I0 18 (.pick (.t 15) (.t 17) (.c (.p (.bool false)))))) rfl rfl (by first | exact hokA1 | exact hokA0 | simp)) ?_
  refine jp [(0, eS 6 eTask a0), (1, eS 1 vt a1), (5, .own 0 0 v26.length), (6, vi v38), (7, vi v39), (18, vb ((decide (v39 < a0.length)) && (decide (v38 < (0 : Int)))))] ?_
  refine TriE.cond (b := (decide (v39 < a0.length)) && (decide (v38 < (0 : Int)))) rfl (fun c1 => ?_) (fun c1 => ?_)
  · have h := cond_t h c1
    refine TriE.skip ?_
    refine TriE.seqK h (fun (v50 : Int) => St.mk [(0, eS 6 eTask a0), (1, eS 1 vt a1), (5, .own 0 0 v26.length), (6, vi v50), (7, vi v39)] [some (.row 1 (List.map vt v26))]) ?_ ?_
    · rintro v50 h
      refine TriE.regJ ?_
      refine rn 1 [(0, eS 6 eTask a0), (1, eS 1 vt a1), (5, .own 0 0 v26.length), (6, vi v50), (19, vi v39)] [some (.row 1 (List.map vt v26))] ?_
      obtain ⟨c7, h⟩ := chk_some h
      refine jv (vi ((v39 + 1 : Nat) : Int)) (cy (I0 20 (.bin .add false (.t 19) (.c (.p (.int .i64 1)))))) (r_addn (i := v39) (j := 1) rfl rfl c7) rfl ?_
      refine jq 1 [(0, eS 6 eTask a0), (1, eS 1 vt a1), (5, .own 0 0 v26.length), (6, vi v50), (7, vi ((v39 + 1 : Nat) : Int))] [some (.row 1 (List.map vt v26))] ?_
      exact Vs.intro sy ⟨(v50, v39 + 1), rfl, h⟩
    intro k2 h
    refine TriE.block ?_
    refine TriE.seq ?_
    refine sj ?_
    refine rn 3 [(0, eS 6 eTask a0), (1, eS 1 vt a1), (5, .own 0 0 v26.length), (6, vi v38), (7, vi v39), (21, eS 1 vt a1), (22, eS 6 eTask a0), (23, vi v39)] [some (.row 1 (List.map vt v26))] ?_
    obtain ⟨c2, h⟩ := chk_some h
    refine jv (.fptr 6 (List.map eTask a0) v39 0) (cy (I0 24 (.iaddr 6 (.t 22) (.t 23)))) (ok_iaddr_m (j := v39) rfl rfl rfl c2) rfl ?_
    refine rn 1 [(0, eS 6 eTask a0), (1, eS 1 vt a1), (5, .own 0 0 v26.length), (6, vi v38), (7, vi v39), (21, eS 1 vt a1), (25, .fptr 6 (List.map eTask a0) v39 0)] [some (.row 1 (List.map vt v26))] ?_
    refine jv (vt ((ix a0 v39).Name)) (cy (I0 26 (.load false 1 (.t 25)))) (ok_load_fm (v := vt ((ix a0 v39).Name)) rfl c2 rfl) rfl ?_
    obtain ⟨y40, hy40, h⟩ := bind_some h
    refine RegJ.op (Op1.call (y' := vb y40) (obx := []) (oby := []) (ob2 := [some (.row 1 (List.map vt v26))]) _ _ (cy (I0 27 (.call 81 [(.t 21), (.t 26)]))) rfl (agraffebase_HasText_ok n a1 ((ix a0 v39).Name) y40 hy40) [] (by kernel_rfl) (.cons rfl (.cons rfl (.cons rfl .nil))) (by kernel_rfl) (by kernel_rfl) ObsRen.nil (by kernel_rfl) ObsRen.nil (by kernel_rfl)) ?_
    refine rn 2 [(0, eS 6 eTask a0), (1, eS 1 vt a1), (5, .own 0 0 v26.length), (6, vi v38), (7, vi v39), (29, vb (!y40))] [some (.row 1 (List.map vt v26))] ?_
    refine RegJ.op (Op1.valk (v := .own 0 0 v26.length) _ _ (cy (IG 30 (.mov (.t 5)) 29 false)) rfl (by kernel_rfl) (fun hg => (.cons rfl .nil))) ?_
    refine RegJ.op (Op1.valk (v := eS 6 eTask a0) _ _ (cy (IG 31 (.mov (.t 0)) 29 false)) rfl (by kernel_rfl) (fun hg => (.cons rfl .nil))) ?_
    refine RegJ.op (Op1.valk (v := vi v39) _ _ (cy (IG 32 (.mov (.t 7)) 29 false)) rfl (by kernel_rfl) (fun hg => (.cons rfl .nil))) ?_
    refine RegJ.op (Op1.valg (v := .fptr 6 (List.map eTask a0) v39 0) _ _ (cy (IG 33 (.iaddr 6 (.t 31) (.t 32)) 29 false)) rfl (fun hg => (ok_iaddr_m (j := v39) rfl rfl rfl c2)) (fun hg => (.cons hg (.cons hg .nil)))) ?_
    refine RegJ.op (Op1.valk (v := .fptr 6 (List.map eTask a0) v39 0) _ _ (cy (IG 34 (.faddr 0 (.t 33)) 29 false)) rfl (by kernel_rfl) (fun hg => (.cons hg .nil))) ?_
    refine RegJ.op (Op1.valg (v := vt ((ix a0 v39).Name)) _ _ (cy (IG 35 (.load false 1 (.t 34)) 29 false)) rfl (fun hg => (ok_load_fm (v := vt ((ix a0 v39).Name)) rfl c2 rfl)) (fun hg => (.cons hg .nil))) ?_
    obtain ⟨y41, hy41, h⟩ := bind_some h
    refine RegJ.op (Op1.callg (g := !(!y40)) (y' := vb y41) (obx := [some (.row 1 (List.map vt v26))]) _ _ (cy (IG 36 (.call 81 [(.t 30), (.t 35)]) 29 false)) rfl (fun hg => agraffebase_HasText_2_ok n v26 ((ix a0 v39).Name) y41 (gcall_some hy41 hg)) [0] (fun hg => by kernel_rfl) (fun hg => (.cons rfl (.cons hg (.cons hg .nil)))) (by kernel_rfl) (by kernel_rfl) (.same (row_ren vt_frz _ _ _) .nil) (by kernel_rfl) (by kernel_rfl)) ?_
    refine RegJ.op (Op1.or (cy (I0 37 (.pick (.t 29) (.c (.p (.bool true))) (.t 36)))) rfl rfl (by first | exact hokO1 | exact hokO0 | simp)) ?_
    refine jp [(0, eS 6 eTask a0), (1, eS 1 vt a1), (5, .own 0 0 v26.length), (6, vi v38), (7, vi v39), (37, vb ((!y40) || y41))] ?_
    refine TriE.cond (b := (!y40) || y41) rfl (fun c3 => ?_) (fun c3 => ?_)
    · have h := cond_t h c3
      refine TriE.exit ?_
      exact Vs.intro sy ⟨v38, rfl, h⟩
    have h := cond_f h c3
    refine TriE.skip ?_
    refine sr [(0, eS 6 eTask a0), (1, eS 1 vt a1), (5, .own 0 0 v26.length), (6, vi v38), (7, vi v39), (8, vb true)] [some (.row 1 (List.map vt v26))] ?_
    refine sj ?_
    refine rn 2 [(0, eS 6 eTask a0), (1, eS 1 vt a1), (5, .own 0 0 v26.length), (6, vi v38), (7, vi v39), (8, vb true), (38, eS 6 eTask a0), (39, vi v39)] [some (.row 1 (List.map vt v26))] ?_
    refine jv (.fptr 6 (List.map eTask a0) v39 0) (cy (I0 40 (.iaddr 6 (.t 38) (.t 39)))) (ok_iaddr_m (j := v39) rfl rfl rfl c2) rfl ?_
    refine jv (.agg [vt ((ix a0 v39).Name), vi ((ix a0 v39).Cents), vi ((ix a0 v39).Hours), eS 1 vt ((ix a0 v39).Needs), eS 1 (eS 1 vt) ((ix a0 v39).OneOf), eS 2 ePartCount ((ix a0 v39).Parts)]) (cy (I0 41 (.load true 6 (.t 40)))) (ok_load_fm (v := .agg [vt ((ix a0 v39).Name), vi ((ix a0 v39).Cents), vi ((ix a0 v39).Hours), eS 1 vt ((ix a0 v39).Needs), eS 1 (eS 1 vt) ((ix a0 v39).OneOf), eS 2 ePartCount ((ix a0 v39).Parts)]) rfl c2 rfl) rfl ?_
    obtain ⟨y42, hy42, h⟩ := bind_some h
    refine RegJ.op (Op1.call (y' := eS 1 vt y42) (obx := []) (oby := []) (ob2 := [some (.row 1 (List.map vt v26))]) _ _ (cy (I0 42 (.call 80 [(.t 41)]))) rfl (agrafferef08_Leads_ok n (ix a0 v39) y42 hy42) [] (by kernel_rfl) (.cons rfl (.cons rfl .nil)) (by kernel_rfl) (by kernel_rfl) ObsRen.nil (by kernel_rfl) ObsRen.nil (by kernel_rfl)) ?_
    refine jq 1 [(0, eS 6 eTask a0), (1, eS 1 vt a1), (5, .own 0 0 v26.length), (6, vi v38), (7, vi v39), (8, vb true), (9, eS 1 vt y42)] [some (.row 1 (List.map vt v26))] ?_
    refine TriE.seqK h (fun (v49 : Bool) => St.mk [(0, eS 6 eTask a0), (1, eS 1 vt a1), (5, .own 0 0 v26.length), (6, vi v38), (7, vi v39), (8, vb v49)] [some (.row 1 (List.map vt v26))]) ?_ ?_
    · rintro v49 h
      refine sr [(0, eS 6 eTask a0), (1, eS 1 vt a1), (5, .own 0 0 v26.length), (6, vi v38), (7, vi v39), (67, vb v49)] [some (.row 1 (List.map vt v26))] ?_
      refine TriE.cond (b := v49) rfl (fun c6 => ?_) (fun c6 => ?_)
      · have h := cond_t h c6
        refine tr [(0, eS 6 eTask a0), (1, eS 1 vt a1), (5, .own 0 0 v26.length), (7, vi v39), (6, vi v39)] [some (.row 1 (List.map vt v26))] ?_
        exact Vs.intro sy ⟨(v39 : Int), rfl, h⟩
      have h := cond_f h c6
      refine TriE.skip ?_
      exact Vs.intro sy ⟨v38, rfl, h⟩
    intro k1 h
    refine sr [(0, eS 6 eTask a0), (1, eS 1 vt a1), (5, .own 0 0 v26.length), (6, vi v38), (7, vi v39), (8, vb true), (9, eS 1 vt y42), (10, vi 0)] [some (.row 1 (List.map vt v26))] ?_
    refine TriE.block ?_
    refine TriE.sees (S' := ⟨[(0, eS 6 eTask a0), (1, eS 1 vt a1), (5, .own 0 0 v26.length), (6, vi v38), (7, vi v39), (8, vb true), (9, eS 1 vt y42), (10, vi 0)], [some (.row 1 (List.map vt v26))]⟩) sy ?_
    refine TriE.loopN h (fun (t : Bool × Nat) => match t with | (v45, v46) => St.mk [(0, eS 6 eTask a0), (1, eS 1 vt a1), (5, .own 0 0 v26.length), (6, vi v38), (7, vi v39), (8, vb v45), (9, eS 1 vt y42), (10, vi v46)] [some (.row 1 (List.map vt v26))]) rfl ?_
    clear h
    rintro back ⟨v45, v46⟩ h
    dsimp only [agrafferef08_Order_L1] at h
    refine TriE.seq ?_
    refine sj ?_
    refine rn 2 [(0, eS 6 eTask a0), (1, eS 1 vt a1), (5, .own 0 0 v26.length), (6, vi v38), (7, vi v39), (8, vb v45), (9, eS 1 vt y42), (10, vi v46), (43, vi v46), (44, eS 1 vt y42)] [some (.row 1 (List.map vt v26))] ?_
    refine jv (vi (y42.length : Int)) (cy (I0 45 (.len 0 (.t 44)))) (ok_len_m rfl) rfl ?_
    refine jv (vb (decide (v46 < y42.length))) (cy (I0 46 (.bin .lss false (.t 43) (.t 45)))) (n_lss (i := v46) (j := y42.length) rfl rfl) rfl ?_
    refine jp [(0, eS 6 eTask a0), (1, eS 1 vt a1), (5, .own 0 0 v26.length), (6, vi v38), (7, vi v39), (8, vb v45), (9, eS 1 vt y42), (10, vi v46), (46, vb (decide (v46 < y42.length)))] ?_
    refine TriE.cond (b := decide (v46 < y42.length)) rfl (fun c4 => ?_) (fun c4 => ?_)
    · have h := cond_t h c4
      refine TriE.skip ?_
      refine TriE.seq ?_
      refine TriE.block ?_
      refine TriE.regJ ?_
      refine rn 2 [(0, eS 6 eTask a0), (1, eS 1 vt a1), (5, .own 0 0 v26.length), (6, vi v38), (7, vi v39), (9, eS 1 vt y42), (10, vi v46), (50, vb v45)] [some (.row 1 (List.map vt v26))] ?_
      refine RegJ.op (Op1.valk (v := eS 1 vt a1) _ _ (cy (IG 51 (.mov (.t 1)) 50 true)) rfl (by kernel_rfl) (fun hg => (.cons rfl .nil))) ?_
      refine RegJ.op (Op1.valk (v := eS 1 vt y42) _ _ (cy (IG 52 (.mov (.t 9)) 50 true)) rfl (by kernel_rfl) (fun hg => (.cons rfl .nil))) ?_
      refine RegJ.op (Op1.valk (v := vi v46) _ _ (cy (IG 53 (.mov (.t 10)) 50 true)) rfl (by kernel_rfl) (fun hg => (.cons rfl .nil))) ?_
      refine RegJ.op (Op1.valg (v := .fptr 1 (List.map vt y42) v46 0) _ _ (cy (IG 54 (.iaddr 1 (.t 52) (.t 53)) 50 true)) rfl (fun hg => (ok_iaddr_m (j := v46) rfl rfl rfl c4)) (fun hg => (.cons hg (.cons hg .nil)))) ?_
      refine RegJ.op (Op1.valg (v := vt (ix y42 v46)) _ _ (cy (IG 55 (.load false 1 (.t 54)) 50 true)) rfl (fun hg => (ok_load_fm (v := vt (ix y42 v46)) rfl c4 rfl)) (fun hg => (.cons hg .nil))) ?_
      obtain ⟨y47, hy47, h⟩ := bind_some h
      refine RegJ.op (Op1.callg (g := v45) (y' := vb y47) (obx := []) _ _ (cy (IG 56 (.call 81 [(.t 51), (.t 55)]) 50 true)) rfl (fun hg => agraffebase_HasText_ok n a1 (ix y42 v46) y47 (gcall_some hy47 hg)) [] (fun hg => by kernel_rfl) (fun hg => (.cons rfl (.cons hg (.cons hg .nil)))) (by kernel_rfl) (by kernel_rfl) ObsRen.nil (by kernel_rfl) (by kernel_rfl)) ?_
      refine RegJ.op (Op1.valk (v := vb (!y47)) _ _ (cy (IG 57 (.un .not (.t 56)) 50 true)) rfl (by kernel_rfl) (fun hg => (.cons hg .nil))) ?_
      refine RegJ.op (Op1.valk (v := vb (!y47)) _ _ (cy (IG 58 (.mov (.t 57)) 50 true)) rfl (by kernel_rfl) (fun hg => (.cons hg .nil))) ?_
      refine RegJ.op (Op1.valk (v := .own 0 0 v26.length) _ _ (cy (IG 59 (.mov (.t 5)) 58 false)) rfl (by kernel_rfl) (fun hg => (.cons rfl .nil))) ?_
      refine RegJ.op (Op1.valk (v := eS 1 vt y42) _ _ (cy (IG 60 (.mov (.t 9)) 58 false)) rfl (by kernel_rfl) (fun hg => (.cons rfl .nil))) ?_
      refine RegJ.op (Op1.valk (v := vi v46) _ _ (cy (IG 61 (.mov (.t 10)) 58 false)) rfl (by kernel_rfl) (fun hg => (.cons rfl .nil))) ?_
      refine RegJ.op (Op1.valg (v := .fptr 1 (List.map vt y42) v46 0) _ _ (cy (IG 62 (.iaddr 1 (.t 60) (.t 61)) 58 false)) rfl (fun hg => (ok_iaddr_m (j := v46) rfl rfl rfl c4)) (fun hg => (.cons hg (.cons hg .nil)))) ?_
      refine RegJ.op (Op1.valg (v := vt (ix y42 v46)) _ _ (cy (IG 63 (.load false 1 (.t 62)) 58 false)) rfl (fun hg => (ok_load_fm (v := vt (ix y42 v46)) rfl c4 rfl)) (fun hg => (.cons hg .nil))) ?_
      obtain ⟨y48, hy48, h⟩ := bind_some h
      refine RegJ.op (Op1.callg (g := v45 && !(!y47)) (y' := vb y48) (obx := [some (.row 1 (List.map vt v26))]) _ _ (cy (IG 64 (.call 81 [(.t 59), (.t 63)]) 58 false)) rfl (fun hg => agraffebase_HasText_2_ok n v26 (ix y42 v46) y48 (gcall_some hy48 hg)) [0] (fun hg => by kernel_rfl) (fun hg => (.cons rfl (.cons hg (.cons hg .nil)))) (by kernel_rfl) (by kernel_rfl) (.same (row_ren vt_frz _ _ _) .nil) (by kernel_rfl) (by kernel_rfl)) ?_
      refine RegJ.op (Op1.org (g := v45) (cy (IG 65 (.pick (.t 58) (.c (.p (.bool true))) (.t 64)) 50 true)) rfl rfl rfl (fun hg => by first | exact hokO2 hg | exact hokO3 hg | exact hokO1 | exact hokO0 | (rw [hg]; simp) | simp_all)) ?_
      refine RegJ.op (Op1.and (cy (I0 66 (.pick (.t 50) (.t 65) (.c (.p (.bool false)))))) rfl rfl (by first | exact hokA1 | exact hokA0 | simp)) ?_
      refine jq 1 [(0, eS 6 eTask a0), (1, eS 1 vt a1), (5, .own 0 0 v26.length), (6, vi v38), (7, vi v39), (9, eS 1 vt y42), (10, vi v46), (8, vb (v45 && ((!y47) || y48)))] [some (.row 1 (List.map vt v26))] ?_
      refine TriE.regJ ?_
      refine rn 1 [(0, eS 6 eTask a0), (1, eS 1 vt a1), (5, .own 0 0 v26.length), (6, vi v38), (7, vi v39), (9, eS 1 vt y42), (8, vb (v45 && ((!y47) || y48))), (47, vi v46)] [some (.row 1 (List.map vt v26))] ?_
      obtain ⟨c5, h⟩ := chk_some h
      refine jv (vi ((v46 + 1 : Nat) : Int)) (cy (I0 48 (.bin .add false (.t 47) (.c (.p (.int .i64 1)))))) (r_addn (i := v46) (j := 1) rfl rfl c5) rfl ?_
      refine jq 1 [(0, eS 6 eTask a0), (1, eS 1 vt a1), (5, .own 0 0 v26.length), (6, vi v38), (7, vi v39), (9, eS 1 vt y42), (8, vb (v45 && ((!y47) || y48))), (10, vi ((v46 + 1 : Nat) : Int))] [some (.row 1 (List.map vt v26))] ?_
      exact Vs.intro sy ⟨(v45 && ((!y47) || y48), v46 + 1), rfl, h⟩
    have h := cond_f h c4
    refine TriE.exit ?_
    exact Vs.intro sy ⟨v45, rfl, h⟩
  have h := cond_f h c1
  refine TriE.exit ?_
  exact Vs.intro sy ⟨v38, rfl, h⟩
theorem agrafferef08_CheckTasks_ok (n : Nat) (a0 : List Task) (r : Int) (h : agrafferef08_CheckTasks n a0 = some r) : FnL Tryz.prog 21 [eS 6 eTask a0] [] (vi r) [] := by
  dsimp only [agrafferef08_CheckTasks] at h
  refine FnL.ofS (ts := [2]) Tryz.call21 Tryz.func21 rfl rfl (Nat.le_of_ble_eq_true rfl) (Nat.le_of_ble_eq_true rfl) (fun j h => absurd h (Nat.not_lt_zero j)) ?_
  refine sr [(0, eS 6 eTask a0)] [] ?_
  refine TriE.seq ?_
  refine sj ?_
  refine rn 1 [(0, eS 6 eTask a0), (7, eS 6 eTask a0)] [] ?_
  refine jv (vi (a0.length : Int)) (cy (I0 8 (.len 0 (.t 7)))) (ok_len_m rfl) rfl ?_
  refine jv (vb (decide (60 < a0.length))) (cy (I0 9 (.bin .gtr false (.t 8) (.c (.p (.int .i64 60)))))) (n_gtr (i := a0.length) (j := 60) rfl rfl) rfl ?_
  refine jp [(0, eS 6 eTask a0), (9, vb (decide (60 < a0.length)))] ?_
  refine TriE.cond (b := decide (60 < a0.length)) rfl (fun c1 => ?_) (fun c1 => ?_)
  · have h := cond_t h c1
    refine sr [(2, vi 8)] [] ?_
    refine TriE.ret ?_
    have h := Option.some.inj h
    subst h
    exact DoneS.ret (S' := ⟨[(2, vi 8)], []⟩) Sees.refl rfl rfl
  have h := cond_f h c1
  refine TriE.skip ?_
  refine TriE.seqK h (fun (_ : Unit) => St.mk [(0, eS 6 eTask a0)] []) ?_ ?_
  · rintro ⟨⟩ h
    refine sr [(0, eS 6 eTask a0), (5, .emp)] [] ?_
    refine TriE.seqK h (fun (v6 : (List Str)) => St.mk [(0, eS 6 eTask a0), (5, .own 0 0 v6.length)] [some (.row 1 (List.map vt v6))]) ?_ ?_
    · rintro v6 h
      refine TriE.seq ?_
      refine sj ?_
      refine rn 2 [(0, eS 6 eTask a0), (36, eS 6 eTask a0), (37, .own 0 0 v6.length)] [some (.row 1 (List.map vt v6))] ?_
      refine RegJ.sees (Sees.freeze 0 (fr' := [(0, eS 6 eTask a0), (36, eS 6 eTask a0), (37, eS 1 vt v6)]) (ob' := [none]) rfl (frz_row vt_frzE _) (.cons (.refl _) (.cons (.refl _) (.cons (frz_full rfl) .nil))) rfl) ?_
      obtain ⟨y7, hy7, h⟩ := bind_some h
      refine RegJ.op (Op1.call (y' := eS 1 vt y7) (obx := []) (oby := []) (ob2 := [none]) _ _ (cy (I0 38 (.call 78 [(.t 36), (.t 37)]))) rfl (agrafferef08_Order_ok n a0 v6 y7 hy7) [] (by kernel_rfl) (.cons rfl (.cons rfl (.cons rfl .nil))) (by kernel_rfl) (by kernel_rfl) ObsRen.nil (by kernel_rfl) ObsRen.nil (by kernel_rfl)) ?_
      refine jv (vi (y7.length : Int)) (cy (I0 39 (.len 0 (.t 38)))) (ok_len_m rfl) rfl ?_
      refine rn 1 [(39, vi (y7.length : Int)), (40, eS 6 eTask a0)] [none] ?_
      refine jv (vi (a0.length : Int)) (cy (I0 41 (.len 0 (.t 40)))) (ok_len_m rfl) rfl ?_
      refine jv (vb (decide (y7.length < a0.length))) (cy (I0 42 (.bin .lss false (.t 39) (.t 41)))) (n_lss (i := y7.length) (j := a0.length) rfl rfl) rfl ?_
      refine jp [(42, vb (decide (y7.length < a0.length)))] ?_
      refine TriE.cond (b := decide (y7.length < a0.length)) rfl (fun c8 => ?_) (fun c8 => ?_)
      · have h := cond_t h c8
        refine sr [(2, vi 21)] [none] ?_
        refine TriE.ret ?_
        have h := Option.some.inj h
        subst h
        exact DoneS.ret (S' := ⟨[(2, vi 21)], []⟩) (sc [] (by decide) (by kernel_rfl) ObRen.nil rfl rfl) rfl rfl
      have h := cond_f h c8
      refine TriE.skip ?_
      refine sr [(2, vi 0)] [none] ?_
      refine TriE.ret ?_
      have h := Option.some.inj h
      subst h
      exact DoneS.ret (S' := ⟨[(2, vi 0)], []⟩) (sc [] (by decide) (by kernel_rfl) ObRen.nil rfl rfl) rfl rfl
    intro k2 h
    refine sr [(0, eS 6 eTask a0), (5, .emp), (6, vi 0)] [] ?_
    refine TriE.block ?_
    refine TriE.sees (S' := ⟨[(0, eS 6 eTask a0), (5, .own 0 0 ([] : List Str).length), (6, vi 0)], [some (.row 1 (List.map vt ([] : List Str)))]⟩) (Sees.trans (Sees.co (fr' := [(0, eS 6 eTask a0), (5, .own 0 0 0), (6, vi 0)]) (ob' := []) (.cons .same (.cons .own (.cons .same .nil))) ObCo.nil 1) sy) ?_
    refine TriE.loopN h (fun (t : (List Str) × Nat) => match t with | (v4, v5) => St.mk [(0, eS 6 eTask a0), (5, .own 0 0 v4.length), (6, vi v5)] [some (.row 1 (List.map vt v4))]) rfl ?_
    clear h
    rintro back ⟨v4, v5⟩ h
    dsimp only [agrafferef08_CheckTasks_L2] at h
    refine TriE.seq ?_
    refine sj ?_
    refine rn 2 [(0, eS 6 eTask a0), (5, .own 0 0 v4.length), (6, vi v5), (22, vi v5), (23, eS 6 eTask a0)] [some (.row 1 (List.map vt v4))] ?_
    refine jv (vi (a0.length : Int)) (cy (I0 24 (.len 0 (.t 23)))) (ok_len_m rfl) rfl ?_
    refine jv (vb (decide (v5 < a0.length))) (cy (I0 25 (.bin .lss false (.t 22) (.t 24)))) (n_lss (i := v5) (j := a0.length) rfl rfl) rfl ?_
    refine jp [(0, eS 6 eTask a0), (5, .own 0 0 v4.length), (6, vi v5), (25, vb (decide (v5 < a0.length)))] ?_
    refine TriE.cond (b := decide (v5 < a0.length)) rfl (fun c5 => ?_) (fun c5 => ?_)
    · have h := cond_t h c5
      refine TriE.skip ?_
      refine TriE.seq ?_
      refine TriE.block ?_
      refine TriE.regJ ?_
      refine rn 3 [(0, eS 6 eTask a0), (6, vi v5), (28, .own 0 0 v4.length), (29, eS 6 eTask a0), (30, vi v5)] [some (.row 1 (List.map vt v4))] ?_
      refine jv (.fptr 6 (List.map eTask a0) v5 0) (cy (I0 31 (.iaddr 6 (.t 29) (.t 30)))) (ok_iaddr_m (j := v5) rfl rfl rfl c5) rfl ?_
      refine rn 1 [(0, eS 6 eTask a0), (6, vi v5), (28, .own 0 0 v4.length), (32, .fptr 6 (List.map eTask a0) v5 0)] [some (.row 1 (List.map vt v4))] ?_
      refine jv (vt ((ix a0 v5).Name)) (cy (I0 33 (.load false 1 (.t 32)))) (ok_load_fm (v := vt ((ix a0 v5).Name)) rfl c5 rfl) rfl ?_
      refine rn 1 [(0, eS 6 eTask a0), (6, vi v5), (28, .own 0 0 v4.length), (34, .own 1 0 1)] [some (.row 1 (List.map vt v4)), some (.row 1 [vt ((ix a0 v5).Name)])] ?_
      obtain ⟨c6, h⟩ := chk_some h
      refine je (.own 2 0 ((v4 ++ ([(ix a0 v5).Name] : List Str)).length)) [none, some (.row 1 [vt ((ix a0 v5).Name)]), some (.row 1 (List.map vt (v4 ++ ([(ix a0 v5).Name] : List Str))))] (cy (I0 35 (.app 1 16 (.t 28) (.t 34)))) (ok_app_own (l := v4) (l2 := ([(ix a0 v5).Name] : List Str)) (e := vt) (u := .own 1 0 1) rfl rfl rfl rfl rfl c6) rfl rfl rfl ?_
      refine jq 1 [(0, eS 6 eTask a0), (6, vi v5), (5, .own 2 0 ((v4 ++ ([(ix a0 v5).Name] : List Str)).length))] [none, some (.row 1 [vt ((ix a0 v5).Name)]), some (.row 1 (List.map vt (v4 ++ ([(ix a0 v5).Name] : List Str))))] ?_
      refine TriE.regJ ?_
      refine rn 1 [(0, eS 6 eTask a0), (5, .own 2 0 ((v4 ++ ([(ix a0 v5).Name] : List Str)).length)), (26, vi v5)] [none, some (.row 1 [vt ((ix a0 v5).Name)]), some (.row 1 (List.map vt (v4 ++ ([(ix a0 v5).Name] : List Str))))] ?_
      obtain ⟨c7, h⟩ := chk_some h
      refine jv (vi ((v5 + 1 : Nat) : Int)) (cy (I0 27 (.bin .add false (.t 26) (.c (.p (.int .i64 1)))))) (r_addn (i := v5) (j := 1) rfl rfl c7) rfl ?_
      refine jq 1 [(0, eS 6 eTask a0), (5, .own 2 0 ((v4 ++ ([(ix a0 v5).Name] : List Str)).length)), (6, vi ((v5 + 1 : Nat) : Int))] [none, some (.row 1 [vt ((ix a0 v5).Name)]), some (.row 1 (List.map vt (v4 ++ ([(ix a0 v5).Name] : List Str))))] ?_
      exact Vs.intro (sc [2] (by decide) (by kernel_rfl) (obRen_row vt_frz rfl .nil) rfl rfl) ⟨((v4 ++ ([(ix a0 v5).Name] : List Str)), v5 + 1), rfl, h⟩
    have h := cond_f h c5
    refine TriE.exit ?_
    exact Vs.intro sy ⟨v4, rfl, h⟩
  intro k1 h
  refine sr [(0, eS 6 eTask a0), (3, vi 0)] [] ?_
  refine TriE.block ?_
  refine TriE.sees (S' := ⟨[(0, eS 6 eTask a0), (3, vi 0)], []⟩) sy ?_
  refine TriE.loopN h (fun (v2 : Nat) => St.mk [(0, eS 6 eTask a0), (3, vi v2)] []) rfl ?_
  clear h
  rintro back v2 h
  dsimp only [agrafferef08_CheckTasks_L1] at h
  refine TriE.seq ?_
  refine sj ?_
  refine rn 2 [(0, eS 6 eTask a0), (3, vi v2), (10, vi v2), (11, eS 6 eTask a0)] [] ?_
  refine jv (vi (a0.length : Int)) (cy (I0 12 (.len 0 (.t 11)))) (ok_len_m rfl) rfl ?_
  refine jv (vb (decide (v2 < a0.length))) (cy (I0 13 (.bin .lss false (.t 10) (.t 12)))) (n_lss (i := v2) (j := a0.length) rfl rfl) rfl ?_
  refine jp [(0, eS 6 eTask a0), (3, vi v2), (13, vb (decide (v2 < a0.length)))] ?_
  refine TriE.cond (b := decide (v2 < a0.length)) rfl (fun c2 => ?_) (fun c2 => ?_)
  · have h := cond_t h c2
    refine TriE.skip ?_
    refine TriE.seq ?_
    refine TriE.block ?_
    refine sj ?_
    refine rn 2 [(0, eS 6 eTask a0), (3, vi v2), (16, eS 6 eTask a0), (17, vi v2)] [] ?_
    obtain ⟨y3, hy3, h⟩ := bind_some h
    refine RegJ.op (Op1.call (y' := vi y3) (obx := []) (oby := []) (ob2 := []) _ _ (cy (I0 18 (.call 88 [(.t 16), (.t 17)]))) rfl (agrafferef08_task_ok n a0 (v2 : Int) y3 hy3) [] (by kernel_rfl) (.cons rfl (.cons rfl (.cons rfl .nil))) (by kernel_rfl) (by kernel_rfl) ObsRen.nil (by kernel_rfl) ObsRen.nil (by kernel_rfl)) ?_
    refine jq 1 [(0, eS 6 eTask a0), (3, vi v2), (4, vi y3)] [] ?_
    refine sr [(0, eS 6 eTask a0), (3, vi v2), (4, vi y3), (20, vb (y3 != (0 : Int)))] [] ?_
    refine TriE.cond (b := (y3 != (0 : Int))) rfl (fun c3 => ?_) (fun c3 => ?_)
    · have h := cond_t h c3
      refine sr [(2, vi y3)] [] ?_
      refine TriE.ret ?_
      have h := Option.some.inj h
      subst h
      exact DoneS.ret (S' := ⟨[(2, vi y3)], []⟩) Sees.refl rfl rfl
    have h := cond_f h c3
    refine TriE.skip ?_
    refine TriE.regJ ?_
    refine rn 1 [(0, eS 6 eTask a0), (14, vi v2)] [] ?_
    obtain ⟨c4, h⟩ := chk_some h
    refine jv (vi ((v2 + 1 : Nat) : Int)) (cy (I0 15 (.bin .add false (.t 14) (.c (.p (.int .i64 1)))))) (r_addn (i := v2) (j := 1) rfl rfl c4) rfl ?_
    refine jq 1 [(0, eS 6 eTask a0), (3, vi ((v2 + 1 : Nat) : Int))] [] ?_
    exact Vs.intro sy ⟨(v2 + 1), rfl, h⟩
  have h := cond_f h c2
  refine TriE.exit ?_
  exact Vs.intro sy ⟨(), rfl, h⟩
theorem restore_list_checkSet_ok (n : Nat) (a0 : List Task) (a1 : List Str) (r : Int) (h : restore_list_checkSet n a0 a1 = some r) : FnL Tryz.prog 131 [eS 6 eTask a0, eS 1 vt a1] [] (vi r) [] := by
  dsimp only [restore_list_checkSet] at h
  refine FnL.ofS (ts := [4]) Tryz.call131 Tryz.func131 rfl rfl (Nat.le_of_ble_eq_true rfl) (Nat.le_of_ble_eq_true rfl) (fun j h => absurd h (Nat.not_lt_zero j)) ?_
  refine sr [(0, eS 6 eTask a0), (1, eS 1 vt a1)] [] ?_
  refine TriE.seqK h (fun (_ : Unit) => St.mk [(1, eS 1 vt a1)] []) ?_ ?_
  · rintro ⟨⟩ h
    refine TriE.seqK h (fun (_ : Unit) => St.mk [] []) ?_ ?_
    · rintro ⟨⟩ h
      refine sr [(4, vi 0)] [] ?_
      refine TriE.ret ?_
      have h := Option.some.inj h
      subst h
      exact DoneS.ret (S' := ⟨[(4, vi 0)], []⟩) Sees.refl rfl rfl
    intro k2 h
    refine sr [(1, eS 1 vt a1), (7, vi 1)] [] ?_
    refine TriE.block ?_
    refine TriE.sees (S' := ⟨[(1, eS 1 vt a1), (7, vi 1)], []⟩) sy ?_
    refine TriE.loopN h (fun (v4 : Nat) => St.mk [(1, eS 1 vt a1), (7, vi v4)] []) rfl ?_
    clear h
    rintro back v4 h
    dsimp only [restore_list_checkSet_L2] at h
    refine TriE.seq ?_
    refine sj ?_
    refine rn 2 [(1, eS 1 vt a1), (7, vi v4), (19, vi v4), (20, eS 1 vt a1)] [] ?_
    refine jv (vi (a1.length : Int)) (cy (I0 21 (.len 0 (.t 20)))) (ok_len_m rfl) rfl ?_
    refine jv (vb (decide (v4 < a1.length))) (cy (I0 22 (.bin .lss false (.t 19) (.t 21)))) (n_lss (i := v4) (j := a1.length) rfl rfl) rfl ?_
    refine jp [(1, eS 1 vt a1), (7, vi v4), (22, vb (decide (v4 < a1.length)))] ?_
    refine TriE.cond (b := decide (v4 < a1.length)) rfl (fun c4 => ?_) (fun c4 => ?_)
    · have h := cond_t h c4
      refine TriE.skip ?_
      refine TriE.seq ?_
      refine TriE.block ?_
      refine TriE.seq ?_
      refine TriE.sees (Sees.less (fr' := [(1, eS 1 vt a1), (7, vi v4)]) (.cons rfl (.cons rfl .nil))) ?_
      refine TriE.draw (by kernel_rfl) ?_
      refine RegD.run 2 [(26, vi v4), (25, eS 1 vt a1), (1, eS 1 vt a1), (7, vi v4)] [none, none] (by kernel_rfl) ?_
      refine dv (.fptr 1 (List.map vt a1) v4 0) (cy (I0 27 (.iaddr 1 (.t 25) (.t 26)))) (ok_iaddr_m (j := v4) rfl rfl rfl c4) rfl ?_
      refine dv (vt (ix a1 v4)) (cy (I0 28 (.load false 1 (.t 27)))) (ok_load_fm (v := vt (ix a1 v4)) rfl c4 rfl) rfl ?_
      refine RegD.run 2 [(30, vi v4), (29, eS 1 vt a1), (28, vt (ix a1 v4)), (27, .fptr 1 (List.map vt a1) v4 0), (26, vi v4), (25, eS 1 vt a1), (1, eS 1 vt a1), (7, vi v4)] [none, none, none, none, none, none] (by kernel_rfl) ?_
      obtain ⟨c5, h⟩ := chk_some h
      refine dv (vi ((v4 : Int) - 1)) (cy (I0 31 (.bin .sub false (.t 30) (.c (.p (.int .i64 1)))))) (r_sub rfl rfl c5) rfl ?_
      obtain ⟨c6, h⟩ := chk_some h
      refine dv (.fptr 1 (List.map vt a1) (((v4 : Int) - 1).toNat) 0) (cy (I0 32 (.iaddr 1 (.t 29) (.t 31)))) (ok_iaddr_m (j := ((v4 : Int) - 1).toNat) rfl rfl (inB_to c6) (inB_lt c6)) rfl ?_
      obtain ⟨c7, h⟩ := chk_some h
      refine dv (vt (ix a1 (((v4 : Int) - 1).toNat))) (cy (I0 33 (.load false 1 (.t 32)))) (ok_load_fm (v := vt (ix a1 (((v4 : Int) - 1).toNat))) rfl c7 rfl) rfl ?_
      refine RegD.run 1 [(34, vb (bLt (ix a1 v4) (ix a1 (((v4 : Int) - 1).toNat)) || ((ix a1 v4) == (ix a1 (((v4 : Int) - 1).toNat))))), (33, vt (ix a1 (((v4 : Int) - 1).toNat))), (32, .fptr 1 (List.map vt a1) (((v4 : Int) - 1).toNat) 0), (31, vi ((v4 : Int) - 1)), (30, vi v4), (29, eS 1 vt a1), (28, vt (ix a1 v4)), (27, .fptr 1 (List.map vt a1) v4 0), (26, vi v4), (25, eS 1 vt a1), (1, eS 1 vt a1), (7, vi v4)] [none, none, none, none, none, none, none, none, none, none] (by kernel_rfl) ?_
      refine RegD.done rfl (by kernel_rfl) (S' := ⟨[(1, eS 1 vt a1), (7, vi v4), (34, vb (bLt (ix a1 v4) (ix a1 (((v4 : Int) - 1).toNat)) || ((ix a1 v4) == (ix a1 (((v4 : Int) - 1).toNat)))))], []⟩) (sc [] (by decide) (by kernel_rfl) ObRen.nil rfl rfl) ?_
      refine TriE.cond (b := (bLt (ix a1 v4) (ix a1 (((v4 : Int) - 1).toNat)) || ((ix a1 v4) == (ix a1 (((v4 : Int) - 1).toNat))))) rfl (fun c8 => ?_) (fun c8 => ?_)
      · have h := cond_t h c8
        refine sr [(4, vi 9)] [] ?_
        refine TriE.ret ?_
        have h := Option.some.inj h
        subst h
        exact DoneS.ret (S' := ⟨[(4, vi 9)], []⟩) Sees.refl rfl rfl
      have h := cond_f h c8
      refine TriE.skip ?_
      refine TriE.regJ ?_
      refine rn 1 [(1, eS 1 vt a1), (23, vi v4)] [] ?_
      obtain ⟨c9, h⟩ := chk_some h
      refine jv (vi ((v4 + 1 : Nat) : Int)) (cy (I0 24 (.bin .add false (.t 23) (.c (.p (.int .i64 1)))))) (r_addn (i := v4) (j := 1) rfl rfl c9) rfl ?_
      refine jq 1 [(1, eS 1 vt a1), (7, vi ((v4 + 1 : Nat) : Int))] [] ?_
      exact Vs.intro sy ⟨(v4 + 1), rfl, h⟩
    have h := cond_f h c4
    refine TriE.exit ?_
    exact Vs.intro sy ⟨(), rfl, h⟩
  intro k1 h
  refine sj ?_
  refine rn 1 [(0, eS 6 eTask a0), (1, eS 1 vt a1), (8, eS 1 vt a1)] [] ?_
  refine jv (vi (a1.length : Int)) (cy (I0 9 (.len 0 (.t 8)))) (ok_len_m rfl) rfl ?_
  refine jq 1 [(0, eS 6 eTask a0), (1, eS 1 vt a1), (8, eS 1 vt a1), (9, vi (a1.length : Int)), (10, vi 0)] [] ?_
  refine TriE.block ?_
  refine TriE.sees (S' := ⟨[(0, eS 6 eTask a0), (1, eS 1 vt a1), (8, eS 1 vt a1), (9, vi (a1.length : Int)), (10, vi 0)], []⟩) sy ?_
  refine TriE.loopN h (fun (v2 : Nat) => St.mk [(0, eS 6 eTask a0), (1, eS 1 vt a1), (8, eS 1 vt a1), (9, vi (a1.length : Int)), (10, vi v2)] []) rfl ?_
  clear h
  rintro back v2 h
  dsimp only [restore_list_checkSet_L1] at h
  refine sj ?_
  refine jv (vb (decide (v2 < a1.length))) (cy (I0 11 (.bin .lss false (.t 10) (.t 9)))) (n_lss (i := v2) (j := a1.length) rfl rfl) rfl ?_
  refine jp [(0, eS 6 eTask a0), (1, eS 1 vt a1), (8, eS 1 vt a1), (9, vi (a1.length : Int)), (10, vi v2), (11, vb (decide (v2 < a1.length)))] ?_
  refine TriE.seq ?_
  refine TriE.cond (b := decide (v2 < a1.length)) rfl (fun c1 => ?_) (fun c1 => ?_)
  · have h := cond_t h c1
    refine TriE.skip ?_
    refine TriE.seq ?_
    refine TriE.block ?_
    refine sj ?_
    refine jv (.fptr 1 (List.map vt a1) v2 0) (cy (I0 12 (.iaddr 1 (.t 8) (.t 10)))) (ok_iaddr_m (j := v2) rfl rfl rfl c1) rfl ?_
    refine jv (vt (ix a1 v2)) (cy (I0 13 (.load false 1 (.t 12)))) (ok_load_fm (v := vt (ix a1 v2)) rfl c1 rfl) rfl ?_
    refine jq 1 [(0, eS 6 eTask a0), (1, eS 1 vt a1), (8, eS 1 vt a1), (9, vi (a1.length : Int)), (10, vi v2), (6, vt (ix a1 v2))] [] ?_
    refine sj ?_
    refine rn 2 [(0, eS 6 eTask a0), (1, eS 1 vt a1), (8, eS 1 vt a1), (9, vi (a1.length : Int)), (10, vi v2), (14, eS 6 eTask a0), (15, vt (ix a1 v2))] [] ?_
    obtain ⟨y3, hy3, h⟩ := bind_some h
    refine RegJ.op (Op1.call (y' := vi y3) (obx := []) (oby := []) (ob2 := []) _ _ (cy (I0 16 (.call 117 [(.t 14), (.t 15)]))) rfl (restore_list_find_ok n a0 (ix a1 v2) y3 hy3) [] (by kernel_rfl) (.cons rfl (.cons rfl (.cons rfl .nil))) (by kernel_rfl) (by kernel_rfl) ObsRen.nil (by kernel_rfl) ObsRen.nil (by kernel_rfl)) ?_
    refine jq 1 [(0, eS 6 eTask a0), (1, eS 1 vt a1), (8, eS 1 vt a1), (9, vi (a1.length : Int)), (10, vi v2), (17, vb (decide (y3 < (0 : Int))))] [] ?_
    refine TriE.cond (b := decide (y3 < (0 : Int))) rfl (fun c2 => ?_) (fun c2 => ?_)
    · have h := cond_t h c2
      refine sr [(4, vi 6)] [] ?_
      refine TriE.ret ?_
      have h := Option.some.inj h
      subst h
      exact DoneS.ret (S' := ⟨[(4, vi 6)], []⟩) Sees.refl rfl rfl
    have h := cond_f h c2
    refine TriE.skip ?_
    refine TriE.regJ ?_
    obtain ⟨c3, h⟩ := chk_some h
    refine jv (vi ((v2 + 1 : Nat) : Int)) (cy (I0 18 (.bin .add false (.t 10) (.c (.p (.int .i64 1)))))) (r_addn (i := v2) (j := 1) rfl rfl c3) rfl ?_
    refine jq 1 [(0, eS 6 eTask a0), (1, eS 1 vt a1), (8, eS 1 vt a1), (9, vi (a1.length : Int)), (10, vi ((v2 + 1 : Nat) : Int))] [] ?_
    exact Vs.intro sy ⟨(v2 + 1), rfl, h⟩
  have h := cond_f h c1
  refine TriE.exit ?_
  exact Vs.intro sy ⟨(), rfl, h⟩
theorem restore_checkSets_ok (n : Nat) (a0 : List Task) (a1 : List (List Str)) (r : Int) (h : restore_checkSets n a0 a1 = some r) : FnL Tryz.prog 113 [eS 6 eTask a0, eS 1 (eS 1 vt) a1] [] (vi r) [] := by
  dsimp only [restore_checkSets] at h
  refine FnL.ofS (ts := [4]) Tryz.call113 Tryz.func113 rfl rfl (Nat.le_of_ble_eq_true rfl) (Nat.le_of_ble_eq_true rfl) (fun j h => absurd h (Nat.not_lt_zero j)) ?_
  refine sr [(0, eS 6 eTask a0), (1, eS 1 (eS 1 vt) a1)] [] ?_
  refine TriE.seq ?_
  refine sj ?_
  refine rn 1 [(0, eS 6 eTask a0), (1, eS 1 (eS 1 vt) a1), (9, eS 6 eTask a0)] [] ?_
  obtain ⟨y1, hy1, h⟩ := bind_some h
  refine RegJ.op (Op1.call (y' := vi y1) (obx := []) (oby := []) (ob2 := []) _ _ (cy (I0 10 (.call 19 [(.t 9)]))) rfl (restore_CheckTasks_ok n a0 y1 hy1) [] (by kernel_rfl) (.cons rfl (.cons rfl .nil)) (by kernel_rfl) (by kernel_rfl) ObsRen.nil (by kernel_rfl) ObsRen.nil (by kernel_rfl)) ?_
  refine jq 1 [(0, eS 6 eTask a0), (1, eS 1 (eS 1 vt) a1), (5, vi y1)] [] ?_
  refine sr [(0, eS 6 eTask a0), (1, eS 1 (eS 1 vt) a1), (5, vi y1), (12, vb (y1 != (0 : Int)))] [] ?_
  refine TriE.cond (b := (y1 != (0 : Int))) rfl (fun c1 => ?_) (fun c1 => ?_)
  · have h := cond_t h c1
    refine sr [(4, vi y1)] [] ?_
    refine TriE.ret ?_
    have h := Option.some.inj h
    subst h
    exact DoneS.ret (S' := ⟨[(4, vi y1)], []⟩) Sees.refl rfl rfl
  have h := cond_f h c1
  refine TriE.skip ?_
  refine TriE.seqK h (fun (_ : Unit) => St.mk [] []) ?_ ?_
  · rintro ⟨⟩ h
    refine sr [(4, vi 0)] [] ?_
    refine TriE.ret ?_
    have h := Option.some.inj h
    subst h
    exact DoneS.ret (S' := ⟨[(4, vi 0)], []⟩) Sees.refl rfl rfl
  intro k1 h
  refine sj ?_
  refine rn 1 [(0, eS 6 eTask a0), (14, eS 1 (eS 1 vt) a1)] [] ?_
  refine jv (vi (a1.length : Int)) (cy (I0 15 (.len 0 (.t 14)))) (ok_len_m rfl) rfl ?_
  refine jq 1 [(0, eS 6 eTask a0), (14, eS 1 (eS 1 vt) a1), (15, vi (a1.length : Int)), (16, vi 0)] [] ?_
  refine TriE.block ?_
  refine TriE.sees (S' := ⟨[(0, eS 6 eTask a0), (14, eS 1 (eS 1 vt) a1), (15, vi (a1.length : Int)), (16, vi 0)], []⟩) sy ?_
  refine TriE.loopN h (fun (v3 : Nat) => St.mk [(0, eS 6 eTask a0), (14, eS 1 (eS 1 vt) a1), (15, vi (a1.length : Int)), (16, vi v3)] []) rfl ?_
  clear h
  rintro back v3 h
  dsimp only [restore_checkSets_L1] at h
  refine sj ?_
  refine jv (vb (decide (v3 < a1.length))) (cy (I0 17 (.bin .lss false (.t 16) (.t 15)))) (n_lss (i := v3) (j := a1.length) rfl rfl) rfl ?_
  refine jp [(0, eS 6 eTask a0), (14, eS 1 (eS 1 vt) a1), (15, vi (a1.length : Int)), (16, vi v3), (17, vb (decide (v3 < a1.length)))] ?_
  refine TriE.seq ?_
  refine TriE.cond (b := decide (v3 < a1.length)) rfl (fun c2 => ?_) (fun c2 => ?_)
  · have h := cond_t h c2
    refine TriE.skip ?_
    refine TriE.seq ?_
    refine TriE.block ?_
    refine sj ?_
    refine jv (.fptr 1 (List.map (eS 1 vt) a1) v3 0) (cy (I0 18 (.iaddr 1 (.t 14) (.t 16)))) (ok_iaddr_m (j := v3) rfl rfl rfl c2) rfl ?_
    refine jv (eS 1 vt (ix a1 v3)) (cy (I0 19 (.load false 1 (.t 18)))) (ok_load_fm (v := eS 1 vt (ix a1 v3)) rfl c2 rfl) rfl ?_
    refine jq 1 [(0, eS 6 eTask a0), (14, eS 1 (eS 1 vt) a1), (15, vi (a1.length : Int)), (16, vi v3), (7, eS 1 vt (ix a1 v3))] [] ?_
    refine sj ?_
    refine rn 2 [(0, eS 6 eTask a0), (14, eS 1 (eS 1 vt) a1), (15, vi (a1.length : Int)), (16, vi v3), (20, eS 6 eTask a0), (21, eS 1 vt (ix a1 v3))] [] ?_
    obtain ⟨y4, hy4, h⟩ := bind_some h
    refine RegJ.op (Op1.call (y' := vi y4) (obx := []) (oby := []) (ob2 := []) _ _ (cy (I0 22 (.call 131 [(.t 20), (.t 21)]))) rfl (restore_list_checkSet_ok n a0 (ix a1 v3) y4 hy4) [] (by kernel_rfl) (.cons rfl (.cons rfl (.cons rfl .nil))) (by kernel_rfl) (by kernel_rfl) ObsRen.nil (by kernel_rfl) ObsRen.nil (by kernel_rfl)) ?_
    refine jq 1 [(0, eS 6 eTask a0), (14, eS 1 (eS 1 vt) a1), (15, vi (a1.length : Int)), (16, vi v3), (8, vi y4)] [] ?_
    refine sr [(0, eS 6 eTask a0), (14, eS 1 (eS 1 vt) a1), (15, vi (a1.length : Int)), (16, vi v3), (8, vi y4), (24, vb (y4 != (0 : Int)))] [] ?_
    refine TriE.cond (b := (y4 != (0 : Int))) rfl (fun c3 => ?_) (fun c3 => ?_)
    · have h := cond_t h c3
      refine sr [(4, vi y4)] [] ?_
      refine TriE.ret ?_
      have h := Option.some.inj h
      subst h
      exact DoneS.ret (S' := ⟨[(4, vi y4)], []⟩) Sees.refl rfl rfl
    have h := cond_f h c3
    refine TriE.skip ?_
    refine TriE.regJ ?_
    obtain ⟨c4, h⟩ := chk_some h
    refine jv (vi ((v3 + 1 : Nat) : Int)) (cy (I0 26 (.bin .add false (.t 16) (.c (.p (.int .i64 1)))))) (r_addn (i := v3) (j := 1) rfl rfl c4) rfl ?_
    refine jq 1 [(0, eS 6 eTask a0), (14, eS 1 (eS 1 vt) a1), (15, vi (a1.length : Int)), (16, vi ((v3 + 1 : Nat) : Int))] [] ?_
    exact Vs.intro sy ⟨(v3 + 1), rfl, h⟩
  have h := cond_f h c2
  refine TriE.exit ?_
  exact Vs.intro sy ⟨(), rfl, h⟩
theorem restore_in_ok (n : Nat) (a0 : List Str) (r : Unit) (h : restore_in n a0 = some r) : FnL Tryz.prog 114 [eS 1 vt a0] [] (.fn (.func 169) [] [.ptr 0 0 0]) [some (.row 1 [eS 1 vt a0])] := by
  dsimp only [restore_in] at h
  refine FnL.ofS (ts := [2]) Tryz.call114 Tryz.func114 rfl rfl (Nat.le_of_ble_eq_true rfl) (Nat.le_of_ble_eq_true rfl) (fun j h => absurd h (Nat.not_lt_zero j)) ?_
  refine sr [(1, .ptr 0 0 0)] [some (.row 1 [eS 1 vt a0])] ?_
  refine sr [(2, .fn (.func 169) [] [.ptr 0 0 0])] [some (.row 1 [eS 1 vt a0])] ?_
  refine TriE.ret ?_
  have h := Option.some.inj h
  subst h
  exact DoneS.ret (S' := ⟨[(2, .fn (.func 169) [] [.ptr 0 0 0])], [some (.row 1 [eS 1 vt a0])]⟩) Sees.refl rfl rfl
theorem restore_in_f1_ok (n : Nat) (a0 : Str) (a1 : List Str) (r : Bool) (h : restore_in_f1 n a0 a1 = some r) : FnL Tryz.prog 169 [vt a0, .ptr 0 0 0] [some (.row 1 [eS 1 vt a1])] (vb r) [some (.row 1 [eS 1 vt a1])] := by
  dsimp only [restore_in_f1] at h
  refine FnL.ofS (ts := [3]) Tryz.call169 Tryz.func169 rfl rfl (Nat.le_of_ble_eq_true rfl) (Nat.le_of_ble_eq_true rfl) (hall_of (.cons rfl .nil)) ?_
  refine sr [(0, vt a0), (1, .ptr 0 0 0)] [some (.row 1 [eS 1 vt a1])] ?_
  refine sj ?_
  refine rn 2 [(4, eS 1 vt a1), (5, vt a0)] [some (.row 1 [eS 1 vt a1])] ?_
  obtain ⟨y1, hy1, h⟩ := bind_some h
  refine RegJ.op (Op1.call (y' := vb y1) (obx := []) (oby := []) (ob2 := [some (.row 1 [eS 1 vt a1])]) _ _ (cy (I0 6 (.call 154 [(.t 4), (.t 5)]))) rfl (slices_Contains_string_ok n a1 a0 y1 hy1) [] (by kernel_rfl) (.cons rfl (.cons rfl (.cons rfl .nil))) (by kernel_rfl) (by kernel_rfl) ObsRen.nil (by kernel_rfl) ObsRen.nil (by kernel_rfl)) ?_
  refine jq 1 [(3, vb y1)] [some (.row 1 [eS 1 vt a1])] ?_
  refine TriE.ret ?_
  have h := Option.some.inj h
  subst h
  exact DoneS.ret (S' := ⟨[(3, vb y1)], [some (.row 1 [eS 1 vt a1])]⟩) Sees.refl rfl rfl
theorem restore_CheckClosure_f1_ok (n : Nat) (a0 : Str) (a1 : List Str) (r : Bool) (h : restore_CheckClosure_f1 n a0 a1 = some r) : FnL Tryz.prog 115 [vt a0, .ptr 0 0 0] [some (.row 1 [.fn (.func 169) [] [.ptr 1 0 0]]), some (.row 1 [eS 1 vt a1])] (vb r) [some (.row 1 [.fn (.func 169) [] [.ptr 1 0 0]]), some (.row 1 [eS 1 vt a1])] := by
  dsimp only [restore_CheckClosure_f1] at h
  refine FnL.ofS (ts := [3]) Tryz.call115 Tryz.func115 rfl rfl (Nat.le_of_ble_eq_true rfl) (Nat.le_of_ble_eq_true rfl) (hall_of (.cons rfl (.cons rfl .nil))) ?_
  refine sr [(0, vt a0), (1, .ptr 0 0 0)] [some (.row 1 [.fn (.func 169) [] [.ptr 1 0 0]]), some (.row 1 [eS 1 vt a1])] ?_
  refine sj ?_
  refine rn 2 [(4, .fn (.func 169) [] [.ptr 1 0 0]), (5, vt a0)] [some (.row 1 [.fn (.func 169) [] [.ptr 1 0 0]]), some (.row 1 [eS 1 vt a1])] ?_
  obtain ⟨y1, hy1, h⟩ := bind_some h
  refine RegJ.op (Op1.dyn (y' := vb y1) (obx := [some (.row 1 [eS 1 vt a1])]) (oby := [some (.row 1 [eS 1 vt a1])]) (ob2 := [some (.row 1 [.fn (.func 169) [] [.ptr 1 0 0]]), some (.row 1 [eS 1 vt a1])]) _ _ _ (cy (I0 6 (.dyn (.t 4) [(.t 5)]))) rfl rfl (restore_in_f1_ok n a0 a1 y1 hy1) [1] (by kernel_rfl) (.cons rfl (.cons rfl .nil)) (by kernel_rfl) (by kernel_rfl) (.cons rfl .nil) (by kernel_rfl) (.cons rfl .nil) (by kernel_rfl)) ?_
  refine jq 2 [(3, vb (!y1))] [some (.row 1 [.fn (.func 169) [] [.ptr 1 0 0]]), some (.row 1 [eS 1 vt a1])] ?_
  refine TriE.ret ?_
  have h := Option.some.inj h
  subst h
  exact DoneS.ret (S' := ⟨[(3, vb (!y1))], [some (.row 1 [.fn (.func 169) [] [.ptr 1 0 0]]), some (.row 1 [eS 1 vt a1])]⟩) Sees.refl rfl rfl
theorem slices_IndexFunc_string_4_ok (n : Nat) (a0 : List Str) (a1 : List Str) (r : Int) (h : slices_IndexFunc_string_4 n a0 a1 = some r) : FnL Tryz.prog 170 [eS 1 vt a0, .fn (.func 115) [] [.ptr 0 0 0]] [some (.row 1 [.fn (.func 169) [] [.ptr 1 0 0]]), some (.row 1 [eS 1 vt a1])] (vi r) [some (.row 1 [.fn (.func 169) [] [.ptr 1 0 0]]), some (.row 1 [eS 1 vt a1])] := by
  dsimp only [slices_IndexFunc_string_4] at h
  refine FnL.ofS (ts := [4]) Tryz.call170 Tryz.func170 rfl rfl (Nat.le_of_ble_eq_true rfl) (Nat.le_of_ble_eq_true rfl) (hall_of (.cons rfl (.cons rfl .nil))) ?_
  refine sr [(0, eS 1 vt a0), (1, .fn (.func 115) [] [.ptr 0 0 0])] [some (.row 1 [.fn (.func 169) [] [.ptr 1 0 0]]), some (.row 1 [eS 1 vt a1])] ?_
  refine TriE.seqK h (fun (_ : Unit) => St.mk [] [some (.row 1 [.fn (.func 169) [] [.ptr 1 0 0]]), some (.row 1 [eS 1 vt a1])]) ?_ ?_
  · rintro ⟨⟩ h
    refine sr [(4, vi (-1))] [some (.row 1 [.fn (.func 169) [] [.ptr 1 0 0]]), some (.row 1 [eS 1 vt a1])] ?_
    refine TriE.ret ?_
    have h := Option.some.inj h
    subst h
    exact DoneS.ret (S' := ⟨[(4, vi (-1))], [some (.row 1 [.fn (.func 169) [] [.ptr 1 0 0]]), some (.row 1 [eS 1 vt a1])]⟩) Sees.refl rfl rfl
  intro k1 h
  refine sj ?_
  refine rn 1 [(0, eS 1 vt a0), (1, .fn (.func 115) [] [.ptr 0 0 0]), (6, eS 1 vt a0)] [some (.row 1 [.fn (.func 169) [] [.ptr 1 0 0]]), some (.row 1 [eS 1 vt a1])] ?_
  refine jv (vi (a0.length : Int)) (cy (I0 7 (.len 0 (.t 6)))) (ok_len_m rfl) rfl ?_
  refine jq 1 [(0, eS 1 vt a0), (1, .fn (.func 115) [] [.ptr 0 0 0]), (7, vi (a0.length : Int)), (8, vi 0)] [some (.row 1 [.fn (.func 169) [] [.ptr 1 0 0]]), some (.row 1 [eS 1 vt a1])] ?_
  refine TriE.block ?_
  refine TriE.sees (S' := ⟨[(0, eS 1 vt a0), (1, .fn (.func 115) [] [.ptr 0 0 0]), (7, vi (a0.length : Int)), (8, vi 0)], [some (.row 1 [.fn (.func 169) [] [.ptr 1 0 0]]), some (.row 1 [eS 1 vt a1])]⟩) sy ?_
  refine TriE.loopN h (fun (v2 : Nat) => St.mk [(0, eS 1 vt a0), (1, .fn (.func 115) [] [.ptr 0 0 0]), (7, vi (a0.length : Int)), (8, vi v2)] [some (.row 1 [.fn (.func 169) [] [.ptr 1 0 0]]), some (.row 1 [eS 1 vt a1])]) rfl ?_
  clear h
  rintro back v2 h
  dsimp only [slices_IndexFunc_string_4_L1] at h
  refine sj ?_
  refine jv (vb (decide (v2 < a0.length))) (cy (I0 9 (.bin .lss false (.t 8) (.t 7)))) (n_lss (i := v2) (j := a0.length) rfl rfl) rfl ?_
  refine jp [(0, eS 1 vt a0), (1, .fn (.func 115) [] [.ptr 0 0 0]), (7, vi (a0.length : Int)), (8, vi v2), (9, vb (decide (v2 < a0.length)))] ?_
  refine TriE.seq ?_
  refine TriE.cond (b := decide (v2 < a0.length)) rfl (fun c1 => ?_) (fun c1 => ?_)
  · have h := cond_t h c1
    refine TriE.skip ?_
    refine TriE.seq ?_
    refine TriE.block ?_
    refine sr [(0, eS 1 vt a0), (1, .fn (.func 115) [] [.ptr 0 0 0]), (7, vi (a0.length : Int)), (8, vi v2), (5, vi v2)] [some (.row 1 [.fn (.func 169) [] [.ptr 1 0 0]]), some (.row 1 [eS 1 vt a1])] ?_
    refine sj ?_
    refine rn 3 [(0, eS 1 vt a0), (1, .fn (.func 115) [] [.ptr 0 0 0]), (7, vi (a0.length : Int)), (8, vi v2), (5, vi v2), (11, .fn (.func 115) [] [.ptr 0 0 0]), (12, eS 1 vt a0), (13, vi v2)] [some (.row 1 [.fn (.func 169) [] [.ptr 1 0 0]]), some (.row 1 [eS 1 vt a1])] ?_
    refine jv (.fptr 1 (List.map vt a0) v2 0) (cy (I0 14 (.iaddr 1 (.t 12) (.t 13)))) (ok_iaddr_m (j := v2) rfl rfl rfl c1) rfl ?_
    refine jv (vt (ix a0 v2)) (cy (I0 15 (.load false 1 (.t 14)))) (ok_load_fm (v := vt (ix a0 v2)) rfl c1 rfl) rfl ?_
    obtain ⟨y3, hy3, h⟩ := bind_some h
    refine RegJ.op (Op1.dyn (y' := vb y3) (obx := [some (.row 1 [.fn (.func 169) [] [.ptr 1 0 0]]), some (.row 1 [eS 1 vt a1])]) (oby := [some (.row 1 [.fn (.func 169) [] [.ptr 1 0 0]]), some (.row 1 [eS 1 vt a1])]) (ob2 := [some (.row 1 [.fn (.func 169) [] [.ptr 1 0 0]]), some (.row 1 [eS 1 vt a1])]) _ _ _ (cy (I0 16 (.dyn (.t 11) [(.t 15)]))) rfl rfl (restore_CheckClosure_f1_ok n (ix a0 v2) a1 y3 hy3) [0, 1] (by kernel_rfl) (.cons rfl (.cons rfl .nil)) (by kernel_rfl) (by kernel_rfl) (.cons rfl (.cons rfl .nil)) (by kernel_rfl) (.cons rfl (.cons rfl .nil)) (by kernel_rfl)) ?_
    refine jp [(0, eS 1 vt a0), (1, .fn (.func 115) [] [.ptr 0 0 0]), (7, vi (a0.length : Int)), (8, vi v2), (5, vi v2), (16, vb y3)] ?_
    refine TriE.cond (b := y3) rfl (fun c2 => ?_) (fun c2 => ?_)
    · have h := cond_t h c2
      refine sr [(4, vi v2)] [some (.row 1 [.fn (.func 169) [] [.ptr 1 0 0]]), some (.row 1 [eS 1 vt a1])] ?_
      refine TriE.ret ?_
      have h := Option.some.inj h
      subst h
      exact DoneS.ret (S' := ⟨[(4, vi v2)], [some (.row 1 [.fn (.func 169) [] [.ptr 1 0 0]]), some (.row 1 [eS 1 vt a1])]⟩) Sees.refl rfl rfl
    have h := cond_f h c2
    refine TriE.skip ?_
    refine TriE.regJ ?_
    obtain ⟨c3, h⟩ := chk_some h
    refine jv (vi ((v2 + 1 : Nat) : Int)) (cy (I0 18 (.bin .add false (.t 8) (.c (.p (.int .i64 1)))))) (r_addn (i := v2) (j := 1) rfl rfl c3) rfl ?_
    refine jq 1 [(0, eS 1 vt a0), (1, .fn (.func 115) [] [.ptr 0 0 0]), (7, vi (a0.length : Int)), (8, vi ((v2 + 1 : Nat) : Int))] [some (.row 1 [.fn (.func 169) [] [.ptr 1 0 0]]), some (.row 1 [eS 1 vt a1])] ?_
    exact Vs.intro sy ⟨(v2 + 1), rfl, h⟩
  have h := cond_f h c1
  refine TriE.exit ?_
  exact Vs.intro sy ⟨(), rfl, h⟩
theorem slices_ContainsFunc_string_4_ok (n : Nat) (a0 : List Str) (a1 : List Str) (r : Bool) (h : slices_ContainsFunc_string_4 n a0 a1 = some r) : FnL Tryz.prog 116 [eS 1 vt a0, .fn (.func 115) [] [.ptr 0 0 0]] [some (.row 1 [.fn (.func 169) [] [.ptr 1 0 0]]), some (.row 1 [eS 1 vt a1])] (vb r) [some (.row 1 [.fn (.func 169) [] [.ptr 1 0 0]]), some (.row 1 [eS 1 vt a1])] := by
  dsimp only [slices_ContainsFunc_string_4] at h
  refine FnL.ofS (ts := [4]) Tryz.call116 Tryz.func116 rfl rfl (Nat.le_of_ble_eq_true rfl) (Nat.le_of_ble_eq_true rfl) (hall_of (.cons rfl (.cons rfl .nil))) ?_
  refine sr [(0, eS 1 vt a0), (1, .fn (.func 115) [] [.ptr 0 0 0])] [some (.row 1 [.fn (.func 169) [] [.ptr 1 0 0]]), some (.row 1 [eS 1 vt a1])] ?_
  refine sj ?_
  refine rn 2 [(5, eS 1 vt a0), (6, .fn (.func 115) [] [.ptr 0 0 0])] [some (.row 1 [.fn (.func 169) [] [.ptr 1 0 0]]), some (.row 1 [eS 1 vt a1])] ?_
  obtain ⟨y1, hy1, h⟩ := bind_some h
  refine RegJ.op (Op1.call (y' := vi y1) (obx := [some (.row 1 [.fn (.func 169) [] [.ptr 1 0 0]]), some (.row 1 [eS 1 vt a1])]) (oby := [some (.row 1 [.fn (.func 169) [] [.ptr 1 0 0]]), some (.row 1 [eS 1 vt a1])]) (ob2 := [some (.row 1 [.fn (.func 169) [] [.ptr 1 0 0]]), some (.row 1 [eS 1 vt a1])]) _ _ (cy (I0 7 (.call 170 [(.t 5), (.t 6)]))) rfl (slices_IndexFunc_string_4_ok n a0 a1 y1 hy1) [0, 1] (by kernel_rfl) (.cons rfl (.cons rfl (.cons rfl .nil))) (by kernel_rfl) (by kernel_rfl) (.cons rfl (.cons rfl .nil)) (by kernel_rfl) (.cons rfl (.cons rfl .nil)) (by kernel_rfl)) ?_
  refine jq 2 [(4, vb (decide ((0 : Int) ≤ y1)))] [some (.row 1 [.fn (.func 169) [] [.ptr 1 0 0]]), some (.row 1 [eS 1 vt a1])] ?_
  refine TriE.ret ?_
  have h := Option.some.inj h
  subst h
  exact DoneS.ret (S' := ⟨[(4, vb (decide ((0 : Int) ≤ y1)))], [some (.row 1 [.fn (.func 169) [] [.ptr 1 0 0]]), some (.row 1 [eS 1 vt a1])]⟩) Sees.refl rfl rfl
theorem slices_IndexFunc_string_6_ok (n : Nat) (a0 : List Str) (a1 : List Str) (r : Int) (h : slices_IndexFunc_string_6 n a0 a1 = some r) : FnL Tryz.prog 170 [eS 1 vt a0, .fn (.func 169) [] [.ptr 0 0 0]] [some (.row 1 [eS 1 vt a1])] (vi r) [some (.row 1 [eS 1 vt a1])] := by
  dsimp only [slices_IndexFunc_string_6] at h
  refine FnL.ofS (ts := [4]) Tryz.call170 Tryz.func170 rfl rfl (Nat.le_of_ble_eq_true rfl) (Nat.le_of_ble_eq_true rfl) (hall_of (.cons rfl .nil)) ?_
  refine sr [(0, eS 1 vt a0), (1, .fn (.func 169) [] [.ptr 0 0 0])] [some (.row 1 [eS 1 vt a1])] ?_
  refine TriE.seqK h (fun (_ : Unit) => St.mk [] [some (.row 1 [eS 1 vt a1])]) ?_ ?_
  · rintro ⟨⟩ h
    refine sr [(4, vi (-1))] [some (.row 1 [eS 1 vt a1])] ?_
    refine TriE.ret ?_
    have h := Option.some.inj h
    subst h
    exact DoneS.ret (S' := ⟨[(4, vi (-1))], [some (.row 1 [eS 1 vt a1])]⟩) Sees.refl rfl rfl
  intro k1 h
  refine sj ?_
  refine rn 1 [(0, eS 1 vt a0), (1, .fn (.func 169) [] [.ptr 0 0 0]), (6, eS 1 vt a0)] [some (.row 1 [eS 1 vt a1])] ?_
  refine jv (vi (a0.length : Int)) (cy (I0 7 (.len 0 (.t 6)))) (ok_len_m rfl) rfl ?_
  refine jq 1 [(0, eS 1 vt a0), (1, .fn (.func 169) [] [.ptr 0 0 0]), (7, vi (a0.length : Int)), (8, vi 0)] [some (.row 1 [eS 1 vt a1])] ?_
  refine TriE.block ?_
  refine TriE.sees (S' := ⟨[(0, eS 1 vt a0), (1, .fn (.func 169) [] [.ptr 0 0 0]), (7, vi (a0.length : Int)), (8, vi 0)], [some (.row 1 [eS 1 vt a1])]⟩) sy ?_
  refine TriE.loopN h (fun (v2 : Nat) => St.mk [(0, eS 1 vt a0), (1, .fn (.func 169) [] [.ptr 0 0 0]), (7, vi (a0.length : Int)), (8, vi v2)] [some (.row 1 [eS 1 vt a1])]) rfl ?_
  clear h
  rintro back v2 h
  dsimp only [slices_IndexFunc_string_6_L1] at h
  refine sj ?_
  refine jv (vb (decide (v2 < a0.length))) (cy (I0 9 (.bin .lss false (.t 8) (.t 7)))) (n_lss (i := v2) (j := a0.length) rfl rfl) rfl ?_
  refine jp [(0, eS 1 vt a0), (1, .fn (.func 169) [] [.ptr 0 0 0]), (7, vi (a0.length : Int)), (8, vi v2), (9, vb (decide (v2 < a0.length)))] ?_
  refine TriE.seq ?_
  refine TriE.cond (b := decide (v2 < a0.length)) rfl (fun c1 => ?_) (fun c1 => ?_)
  · have h := cond_t h c1
    refine TriE.skip ?_
    refine TriE.seq ?_
    refine TriE.block ?_
    refine sr [(0, eS 1 vt a0), (1, .fn (.func 169) [] [.ptr 0 0 0]), (7, vi (a0.length : Int)), (8, vi v2), (5, vi v2)] [some (.row 1 [eS 1 vt a1])] ?_
    refine sj ?_
    refine rn 3 [(0, eS 1 vt a0), (1, .fn (.func 169) [] [.ptr 0 0 0]), (7, vi (a0.length : Int)), (8, vi v2), (5, vi v2), (11, .fn (.func 169) [] [.ptr 0 0 0]), (12, eS 1 vt a0), (13, vi v2)] [some (.row 1 [eS 1 vt a1])] ?_
    refine jv (.fptr 1 (List.map vt a0) v2 0) (cy (I0 14 (.iaddr 1 (.t 12) (.t 13)))) (ok_iaddr_m (j := v2) rfl rfl rfl c1) rfl ?_
    refine jv (vt (ix a0 v2)) (cy (I0 15 (.load false 1 (.t 14)))) (ok_load_fm (v := vt (ix a0 v2)) rfl c1 rfl) rfl ?_
    obtain ⟨y3, hy3, h⟩ := bind_some h
    refine RegJ.op (Op1.dyn (y' := vb y3) (obx := [some (.row 1 [eS 1 vt a1])]) (oby := [some (.row 1 [eS 1 vt a1])]) (ob2 := [some (.row 1 [eS 1 vt a1])]) _ _ _ (cy (I0 16 (.dyn (.t 11) [(.t 15)]))) rfl rfl (restore_in_f1_ok n (ix a0 v2) a1 y3 hy3) [0] (by kernel_rfl) (.cons rfl (.cons rfl .nil)) (by kernel_rfl) (by kernel_rfl) (.cons rfl .nil) (by kernel_rfl) (.cons rfl .nil) (by kernel_rfl)) ?_
    refine jp [(0, eS 1 vt a0), (1, .fn (.func 169) [] [.ptr 0 0 0]), (7, vi (a0.length : Int)), (8, vi v2), (5, vi v2), (16, vb y3)] ?_
    refine TriE.cond (b := y3) rfl (fun c2 => ?_) (fun c2 => ?_)
    · have h := cond_t h c2
      refine sr [(4, vi v2)] [some (.row 1 [eS 1 vt a1])] ?_
      refine TriE.ret ?_
      have h := Option.some.inj h
      subst h
      exact DoneS.ret (S' := ⟨[(4, vi v2)], [some (.row 1 [eS 1 vt a1])]⟩) Sees.refl rfl rfl
    have h := cond_f h c2
    refine TriE.skip ?_
    refine TriE.regJ ?_
    obtain ⟨c3, h⟩ := chk_some h
    refine jv (vi ((v2 + 1 : Nat) : Int)) (cy (I0 18 (.bin .add false (.t 8) (.c (.p (.int .i64 1)))))) (r_addn (i := v2) (j := 1) rfl rfl c3) rfl ?_
    refine jq 1 [(0, eS 1 vt a0), (1, .fn (.func 169) [] [.ptr 0 0 0]), (7, vi (a0.length : Int)), (8, vi ((v2 + 1 : Nat) : Int))] [some (.row 1 [eS 1 vt a1])] ?_
    exact Vs.intro sy ⟨(v2 + 1), rfl, h⟩
  have h := cond_f h c1
  refine TriE.exit ?_
  exact Vs.intro sy ⟨(), rfl, h⟩
theorem slices_ContainsFunc_string_6_ok (n : Nat) (a0 : List Str) (a1 : List Str) (r : Bool) (h : slices_ContainsFunc_string_6 n a0 a1 = some r) : FnL Tryz.prog 116 [eS 1 vt a0, .fn (.func 169) [] [.ptr 0 0 0]] [some (.row 1 [eS 1 vt a1])] (vb r) [some (.row 1 [eS 1 vt a1])] := by
  dsimp only [slices_ContainsFunc_string_6] at h
  refine FnL.ofS (ts := [4]) Tryz.call116 Tryz.func116 rfl rfl (Nat.le_of_ble_eq_true rfl) (Nat.le_of_ble_eq_true rfl) (hall_of (.cons rfl .nil)) ?_
  refine sr [(0, eS 1 vt a0), (1, .fn (.func 169) [] [.ptr 0 0 0])] [some (.row 1 [eS 1 vt a1])] ?_
  refine sj ?_
  refine rn 2 [(5, eS 1 vt a0), (6, .fn (.func 169) [] [.ptr 0 0 0])] [some (.row 1 [eS 1 vt a1])] ?_
  obtain ⟨y1, hy1, h⟩ := bind_some h
  refine RegJ.op (Op1.call (y' := vi y1) (obx := [some (.row 1 [eS 1 vt a1])]) (oby := [some (.row 1 [eS 1 vt a1])]) (ob2 := [some (.row 1 [eS 1 vt a1])]) _ _ (cy (I0 7 (.call 170 [(.t 5), (.t 6)]))) rfl (slices_IndexFunc_string_6_ok n a0 a1 y1 hy1) [0] (by kernel_rfl) (.cons rfl (.cons rfl (.cons rfl .nil))) (by kernel_rfl) (by kernel_rfl) (.cons rfl .nil) (by kernel_rfl) (.cons rfl .nil) (by kernel_rfl)) ?_
  refine jq 2 [(4, vb (decide ((0 : Int) ≤ y1)))] [some (.row 1 [eS 1 vt a1])] ?_
  refine TriE.ret ?_
  have h := Option.some.inj h
  subst h
  exact DoneS.ret (S' := ⟨[(4, vb (decide ((0 : Int) ≤ y1)))], [some (.row 1 [eS 1 vt a1])]⟩) Sees.refl rfl rfl
theorem restore_CheckClosure_f2_ok (n : Nat) (a0 : List Str) (a1 : List Str) (r : Bool) (h : restore_CheckClosure_f2 n a0 a1 = some r) : FnL Tryz.prog 119 [eS 1 vt a0, .ptr 0 0 0] [some (.row 1 [.fn (.func 169) [] [.ptr 1 0 0]]), some (.row 1 [eS 1 vt a1])] (vb r) [some (.row 1 [.fn (.func 169) [] [.ptr 1 0 0]]), some (.row 1 [eS 1 vt a1])] := by
  dsimp only [restore_CheckClosure_f2] at h
  refine FnL.ofS (ts := [3]) Tryz.call119 Tryz.func119 rfl rfl (Nat.le_of_ble_eq_true rfl) (Nat.le_of_ble_eq_true rfl) (hall_of (.cons rfl (.cons rfl .nil))) ?_
  refine sr [(0, eS 1 vt a0), (1, .ptr 0 0 0)] [some (.row 1 [.fn (.func 169) [] [.ptr 1 0 0]]), some (.row 1 [eS 1 vt a1])] ?_
  refine sj ?_
  refine rn 2 [(4, eS 1 vt a0), (5, .fn (.func 169) [] [.ptr 1 0 0])] [some (.row 1 [.fn (.func 169) [] [.ptr 1 0 0]]), some (.row 1 [eS 1 vt a1])] ?_
  obtain ⟨y1, hy1, h⟩ := bind_some h
  refine RegJ.op (Op1.call (y' := vb y1) (obx := [some (.row 1 [eS 1 vt a1])]) (oby := [some (.row 1 [eS 1 vt a1])]) (ob2 := [some (.row 1 [.fn (.func 169) [] [.ptr 1 0 0]]), some (.row 1 [eS 1 vt a1])]) _ _ (cy (I0 6 (.call 116 [(.t 4), (.t 5)]))) rfl (slices_ContainsFunc_string_6_ok n a0 a1 y1 hy1) [1] (by kernel_rfl) (.cons rfl (.cons rfl (.cons rfl .nil))) (by kernel_rfl) (by kernel_rfl) (.cons rfl .nil) (by kernel_rfl) (.cons rfl .nil) (by kernel_rfl)) ?_
  refine jq 2 [(3, vb (!y1))] [some (.row 1 [.fn (.func 169) [] [.ptr 1 0 0]]), some (.row 1 [eS 1 vt a1])] ?_
  refine TriE.ret ?_
  have h := Option.some.inj h
  subst h
  exact DoneS.ret (S' := ⟨[(3, vb (!y1))], [some (.row 1 [.fn (.func 169) [] [.ptr 1 0 0]]), some (.row 1 [eS 1 vt a1])]⟩) Sees.refl rfl rfl
theorem slices_IndexFunc_string_5_ok (n : Nat) (a0 : List (List Str)) (a1 : List Str) (r : Int) (h : slices_IndexFunc_string_5 n a0 a1 = some r) : FnL Tryz.prog 172 [eS 1 (eS 1 vt) a0, .fn (.func 119) [] [.ptr 0 0 0]] [some (.row 1 [.fn (.func 169) [] [.ptr 1 0 0]]), some (.row 1 [eS 1 vt a1])] (vi r) [some (.row 1 [.fn (.func 169) [] [.ptr 1 0 0]]), some (.row 1 [eS 1 vt a1])] := by
  dsimp only [slices_IndexFunc_string_5] at h
  refine FnL.ofS (ts := [4]) Tryz.call172 Tryz.func172 rfl rfl (Nat.le_of_ble_eq_true rfl) (Nat.le_of_ble_eq_true rfl) (hall_of (.cons rfl (.cons rfl .nil))) ?_
  refine sr [(0, eS 1 (eS 1 vt) a0), (1, .fn (.func 119) [] [.ptr 0 0 0])] [some (.row 1 [.fn (.func 169) [] [.ptr 1 0 0]]), some (.row 1 [eS 1 vt a1])] ?_
  refine TriE.seqK h (fun (_ : Unit) => St.mk [] [some (.row 1 [.fn (.func 169) [] [.ptr 1 0 0]]), some (.row 1 [eS 1 vt a1])]) ?_ ?_
  · rintro ⟨⟩ h
    refine sr [(4, vi (-1))] [some (.row 1 [.fn (.func 169) [] [.ptr 1 0 0]]), some (.row 1 [eS 1 vt a1])] ?_
    refine TriE.ret ?_
    have h := Option.some.inj h
    subst h
    exact DoneS.ret (S' := ⟨[(4, vi (-1))], [some (.row 1 [.fn (.func 169) [] [.ptr 1 0 0]]), some (.row 1 [eS 1 vt a1])]⟩) Sees.refl rfl rfl
  intro k1 h
  refine sj ?_
  refine rn 1 [(0, eS 1 (eS 1 vt) a0), (1, .fn (.func 119) [] [.ptr 0 0 0]), (6, eS 1 (eS 1 vt) a0)] [some (.row 1 [.fn (.func 169) [] [.ptr 1 0 0]]), some (.row 1 [eS 1 vt a1])] ?_
  refine jv (vi (a0.length : Int)) (cy (I0 7 (.len 0 (.t 6)))) (ok_len_m rfl) rfl ?_
  refine jq 1 [(0, eS 1 (eS 1 vt) a0), (1, .fn (.func 119) [] [.ptr 0 0 0]), (7, vi (a0.length : Int)), (8, vi 0)] [some (.row 1 [.fn (.func 169) [] [.ptr 1 0 0]]), some (.row 1 [eS 1 vt a1])] ?_
  refine TriE.block ?_
  refine TriE.sees (S' := ⟨[(0, eS 1 (eS 1 vt) a0), (1, .fn (.func 119) [] [.ptr 0 0 0]), (7, vi (a0.length : Int)), (8, vi 0)], [some (.row 1 [.fn (.func 169) [] [.ptr 1 0 0]]), some (.row 1 [eS 1 vt a1])]⟩) sy ?_
  refine TriE.loopN h (fun (v2 : Nat) => St.mk [(0, eS 1 (eS 1 vt) a0), (1, .fn (.func 119) [] [.ptr 0 0 0]), (7, vi (a0.length : Int)), (8, vi v2)] [some (.row 1 [.fn (.func 169) [] [.ptr 1 0 0]]), some (.row 1 [eS 1 vt a1])]) rfl ?_
  clear h
  rintro back v2 h
  dsimp only [slices_IndexFunc_string_5_L1] at h
  refine sj ?_
  refine jv (vb (decide (v2 < a0.length))) (cy (I0 9 (.bin .lss false (.t 8) (.t 7)))) (n_lss (i := v2) (j := a0.length) rfl rfl) rfl ?_
  refine jp [(0, eS 1 (eS 1 vt) a0), (1, .fn (.func 119) [] [.ptr 0 0 0]), (7, vi (a0.length : Int)), (8, vi v2), (9, vb (decide (v2 < a0.length)))] ?_
  refine TriE.seq ?_
  refine TriE.cond (b := decide (v2 < a0.length)) rfl (fun c1 => ?_) (fun c1 => ?_)
  · have h := cond_t h c1
    refine TriE.skip ?_
    refine TriE.seq ?_
    refine TriE.block ?_
    refine sr [(0, eS 1 (eS 1 vt) a0), (1, .fn (.func 119) [] [.ptr 0 0 0]), (7, vi (a0.length : Int)), (8, vi v2), (5, vi v2)] [some (.row 1 [.fn (.func 169) [] [.ptr 1 0 0]]), some (.row 1 [eS 1 vt a1])] ?_
    refine sj ?_
    refine rn 3 [(0, eS 1 (eS 1 vt) a0), (1, .fn (.func 119) [] [.ptr 0 0 0]), (7, vi (a0.length : Int)), (8, vi v2), (5, vi v2), (11, .fn (.func 119) [] [.ptr 0 0 0]), (12, eS 1 (eS 1 vt) a0), (13, vi v2)] [some (.row 1 [.fn (.func 169) [] [.ptr 1 0 0]]), some (.row 1 [eS 1 vt a1])] ?_
    refine jv (.fptr 1 (List.map (eS 1 vt) a0) v2 0) (cy (I0 14 (.iaddr 1 (.t 12) (.t 13)))) (ok_iaddr_m (j := v2) rfl rfl rfl c1) rfl ?_
    refine jv (eS 1 vt (ix a0 v2)) (cy (I0 15 (.load false 1 (.t 14)))) (ok_load_fm (v := eS 1 vt (ix a0 v2)) rfl c1 rfl) rfl ?_
    obtain ⟨y3, hy3, h⟩ := bind_some h
    refine RegJ.op (Op1.dyn (y' := vb y3) (obx := [some (.row 1 [.fn (.func 169) [] [.ptr 1 0 0]]), some (.row 1 [eS 1 vt a1])]) (oby := [some (.row 1 [.fn (.func 169) [] [.ptr 1 0 0]]), some (.row 1 [eS 1 vt a1])]) (ob2 := [some (.row 1 [.fn (.func 169) [] [.ptr 1 0 0]]), some (.row 1 [eS 1 vt a1])]) _ _ _ (cy (I0 16 (.dyn (.t 11) [(.t 15)]))) rfl rfl (restore_CheckClosure_f2_ok n (ix a0 v2) a1 y3 hy3) [0, 1] (by kernel_rfl) (.cons rfl (.cons rfl .nil)) (by kernel_rfl) (by kernel_rfl) (.cons rfl (.cons rfl .nil)) (by kernel_rfl) (.cons rfl (.cons rfl .nil)) (by kernel_rfl)) ?_
    refine jp [(0, eS 1 (eS 1 vt) a0), (1, .fn (.func 119) [] [.ptr 0 0 0]), (7, vi (a0.length : Int)), (8, vi v2), (5, vi v2), (16, vb y3)] ?_
    refine TriE.cond (b := y3) rfl (fun c2 => ?_) (fun c2 => ?_)
    · have h := cond_t h c2
      refine sr [(4, vi v2)] [some (.row 1 [.fn (.func 169) [] [.ptr 1 0 0]]), some (.row 1 [eS 1 vt a1])] ?_
      refine TriE.ret ?_
      have h := Option.some.inj h
      subst h
      exact DoneS.ret (S' := ⟨[(4, vi v2)], [some (.row 1 [.fn (.func 169) [] [.ptr 1 0 0]]), some (.row 1 [eS 1 vt a1])]⟩) Sees.refl rfl rfl
    have h := cond_f h c2
    refine TriE.skip ?_
    refine TriE.regJ ?_
    obtain ⟨c3, h⟩ := chk_some h
    refine jv (vi ((v2 + 1 : Nat) : Int)) (cy (I0 18 (.bin .add false (.t 8) (.c (.p (.int .i64 1)))))) (r_addn (i := v2) (j := 1) rfl rfl c3) rfl ?_
    refine jq 1 [(0, eS 1 (eS 1 vt) a0), (1, .fn (.func 119) [] [.ptr 0 0 0]), (7, vi (a0.length : Int)), (8, vi ((v2 + 1 : Nat) : Int))] [some (.row 1 [.fn (.func 169) [] [.ptr 1 0 0]]), some (.row 1 [eS 1 vt a1])] ?_
    exact Vs.intro sy ⟨(v2 + 1), rfl, h⟩
  have h := cond_f h c1
  refine TriE.exit ?_
  exact Vs.intro sy ⟨(), rfl, h⟩
theorem slices_ContainsFunc_string_5_ok (n : Nat) (a0 : List (List Str)) (a1 : List Str) (r : Bool) (h : slices_ContainsFunc_string_5 n a0 a1 = some r) : FnL Tryz.prog 118 [eS 1 (eS 1 vt) a0, .fn (.func 119) [] [.ptr 0 0 0]] [some (.row 1 [.fn (.func 169) [] [.ptr 1 0 0]]), some (.row 1 [eS 1 vt a1])] (vb r) [some (.row 1 [.fn (.func 169) [] [.ptr 1 0 0]]), some (.row 1 [eS 1 vt a1])] := by
  dsimp only [slices_ContainsFunc_string_5] at h
  refine FnL.ofS (ts := [4]) Tryz.call118 Tryz.func118 rfl rfl (Nat.le_of_ble_eq_true rfl) (Nat.le_of_ble_eq_true rfl) (hall_of (.cons rfl (.cons rfl .nil))) ?_
  refine sr [(0, eS 1 (eS 1 vt) a0), (1, .fn (.func 119) [] [.ptr 0 0 0])] [some (.row 1 [.fn (.func 169) [] [.ptr 1 0 0]]), some (.row 1 [eS 1 vt a1])] ?_
  refine sj ?_
  refine rn 2 [(5, eS 1 (eS 1 vt) a0), (6, .fn (.func 119) [] [.ptr 0 0 0])] [some (.row 1 [.fn (.func 169) [] [.ptr 1 0 0]]), some (.row 1 [eS 1 vt a1])] ?_
  obtain ⟨y1, hy1, h⟩ := bind_some h
  refine RegJ.op (Op1.call (y' := vi y1) (obx := [some (.row 1 [.fn (.func 169) [] [.ptr 1 0 0]]), some (.row 1 [eS 1 vt a1])]) (oby := [some (.row 1 [.fn (.func 169) [] [.ptr 1 0 0]]), some (.row 1 [eS 1 vt a1])]) (ob2 := [some (.row 1 [.fn (.func 169) [] [.ptr 1 0 0]]), some (.row 1 [eS 1 vt a1])]) _ _ (cy (I0 7 (.call 172 [(.t 5), (.t 6)]))) rfl (slices_IndexFunc_string_5_ok n a0 a1 y1 hy1) [0, 1] (by kernel_rfl) (.cons rfl (.cons rfl (.cons rfl .nil))) (by kernel_rfl) (by kernel_rfl) (.cons rfl (.cons rfl .nil)) (by kernel_rfl) (.cons rfl (.cons rfl .nil)) (by kernel_rfl)) ?_
  refine jq 2 [(4, vb (decide ((0 : Int) ≤ y1)))] [some (.row 1 [.fn (.func 169) [] [.ptr 1 0 0]]), some (.row 1 [eS 1 vt a1])] ?_
  refine TriE.ret ?_
  have h := Option.some.inj h
  subst h
  exact DoneS.ret (S' := ⟨[(4, vb (decide ((0 : Int) ≤ y1)))], [some (.row 1 [.fn (.func 169) [] [.ptr 1 0 0]]), some (.row 1 [eS 1 vt a1])]⟩) Sees.refl rfl rfl
theorem restore_CheckClosure_ok (n : Nat) (a0 : List Task) (a1 : List Str) (a2 : List Str) (r : Int) (h : restore_CheckClosure n a0 a1 a2 = some r) : FnL Tryz.prog 52 [eS 6 eTask a0, eS 1 vt a1, eS 1 vt a2] [] (vi r) [] := by
  dsimp only [restore_CheckClosure] at h
  refine FnL.ofS (ts := [6]) Tryz.call52 Tryz.func52 rfl rfl (Nat.le_of_ble_eq_true rfl) (Nat.le_of_ble_eq_true rfl) (fun j h => absurd h (Nat.not_lt_zero j)) ?_
  refine sr [(0, eS 6 eTask a0), (1, eS 1 vt a1), (2, eS 1 vt a2)] [] ?_
  refine TriE.seq ?_
  refine sj ?_
  refine rn 4 [(0, eS 6 eTask a0), (1, eS 1 vt a1), (2, eS 1 vt a2), (14, eS 6 eTask a0), (17, .own 0 0 2)] [some (.row 1 [eS 1 vt a1, eS 1 vt a2])] ?_
  refine RegJ.sees (Sees.freeze 0 (fr' := [(0, eS 6 eTask a0), (1, eS 1 vt a1), (2, eS 1 vt a2), (14, eS 6 eTask a0), (17, eS 1 (eS 1 vt) ([a1, a2] : List (List Str)))]) (ob' := [none]) rfl (frzs_cons rfl (frzs_cons rfl frzs_nil)) (.cons (.refl _) (.cons (.refl _) (.cons (.refl _) (.cons (.refl _) (.cons (.own rfl (Nat.le_of_ble_eq_true rfl)) .nil))))) rfl) ?_
  obtain ⟨y1, hy1, h⟩ := bind_some h
  refine RegJ.op (Op1.call (y' := vi y1) (obx := []) (oby := []) (ob2 := [none]) _ _ (cy (I0 18 (.call 113 [(.t 14), (.t 17)]))) rfl (restore_checkSets_ok n a0 ([a1, a2] : List (List Str)) y1 hy1) [] (by kernel_rfl) (.cons rfl (.cons rfl (.cons rfl .nil))) (by kernel_rfl) (by kernel_rfl) ObsRen.nil (by kernel_rfl) ObsRen.nil (by kernel_rfl)) ?_
  refine jq 1 [(0, eS 6 eTask a0), (1, eS 1 vt a1), (2, eS 1 vt a2), (7, vi y1)] [none] ?_
  refine sr [(0, eS 6 eTask a0), (1, eS 1 vt a1), (2, eS 1 vt a2), (7, vi y1), (20, vb (y1 != (0 : Int)))] [none] ?_
  refine TriE.cond (b := (y1 != (0 : Int))) rfl (fun c1 => ?_) (fun c1 => ?_)
  · have h := cond_t h c1
    refine sr [(6, vi y1)] [none] ?_
    refine TriE.ret ?_
    have h := Option.some.inj h
    subst h
    exact DoneS.ret (S' := ⟨[(6, vi y1)], []⟩) (sc [] (by decide) (by kernel_rfl) ObRen.nil rfl rfl) rfl rfl
  have h := cond_f h c1
  refine TriE.skip ?_
  refine sj ?_
  refine rn 1 [(0, eS 6 eTask a0), (1, eS 1 vt a1), (2, eS 1 vt a2), (22, eS 1 vt a2)] [none] ?_
  obtain ⟨y2, hy2, h⟩ := bind_some h
  refine RegJ.op (Op1.call (y' := .fn (.func 169) [] [.ptr 1 0 0]) (obx := []) (oby := [some (.row 1 [eS 1 vt a2])]) (ob2 := [none, some (.row 1 [eS 1 vt a2])]) _ _ (cy (I0 23 (.call 114 [(.t 22)]))) rfl (restore_in_ok n a2 y2 hy2) [] (by kernel_rfl) (.cons rfl (.cons rfl .nil)) (by kernel_rfl) (by kernel_rfl) ObsRen.nil (by kernel_rfl) (.cons rfl .nil) (by kernel_rfl)) ?_
  refine jq 2 [(0, eS 6 eTask a0), (1, eS 1 vt a1), (2, eS 1 vt a2), (8, .ptr 2 0 0)] [none, some (.row 1 [eS 1 vt a2]), some (.row 1 [.fn (.func 169) [] [.ptr 1 0 0]])] ?_
  refine sr [(0, eS 6 eTask a0), (1, eS 1 vt a1), (2, eS 1 vt a2), (8, .ptr 2 0 0), (9, .fn (.func 115) [] [.ptr 2 0 0])] [none, some (.row 1 [eS 1 vt a2]), some (.row 1 [.fn (.func 169) [] [.ptr 1 0 0]])] ?_
  refine TriE.seq ?_
  refine sj ?_
  refine rn 2 [(0, eS 6 eTask a0), (2, eS 1 vt a2), (8, .ptr 2 0 0), (9, .fn (.func 115) [] [.ptr 2 0 0]), (25, eS 1 vt a1), (26, .fn (.func 115) [] [.ptr 2 0 0])] [none, some (.row 1 [eS 1 vt a2]), some (.row 1 [.fn (.func 169) [] [.ptr 1 0 0]])] ?_
  obtain ⟨y3, hy3, h⟩ := bind_some h
  refine RegJ.op (Op1.call (y' := vb y3) (obx := [some (.row 1 [.fn (.func 169) [] [.ptr 1 0 0]]), some (.row 1 [eS 1 vt a2])]) (oby := [some (.row 1 [.fn (.func 169) [] [.ptr 1 0 0]]), some (.row 1 [eS 1 vt a2])]) (ob2 := [none, some (.row 1 [eS 1 vt a2]), some (.row 1 [.fn (.func 169) [] [.ptr 1 0 0]])]) _ _ (cy (I0 27 (.call 116 [(.t 25), (.t 26)]))) rfl (slices_ContainsFunc_string_4_ok n a1 a2 y3 hy3) [2, 1] (by kernel_rfl) (.cons rfl (.cons rfl (.cons rfl .nil))) (by kernel_rfl) (by kernel_rfl) (.cons rfl (.cons rfl .nil)) (by kernel_rfl) (.cons rfl (.cons rfl .nil)) (by kernel_rfl)) ?_
  refine jp [(0, eS 6 eTask a0), (2, eS 1 vt a2), (8, .ptr 2 0 0), (9, .fn (.func 115) [] [.ptr 2 0 0]), (27, vb y3)] ?_
  refine TriE.cond (b := y3) rfl (fun c2 => ?_) (fun c2 => ?_)
  · have h := cond_t h c2
    refine sr [(6, vi 14)] [none, some (.row 1 [eS 1 vt a2]), some (.row 1 [.fn (.func 169) [] [.ptr 1 0 0]])] ?_
    refine TriE.ret ?_
    have h := Option.some.inj h
    subst h
    exact DoneS.ret (S' := ⟨[(6, vi 14)], []⟩) (sc [] (by decide) (by kernel_rfl) ObRen.nil rfl rfl) rfl rfl
  have h := cond_f h c2
  refine TriE.skip ?_
  refine TriE.seqK h (fun (_ : Unit) => St.mk [(0, eS 6 eTask a0), (2, eS 1 vt a2), (8, .ptr 1 0 0)] [some (.row 1 [eS 1 vt a2]), some (.row 1 [.fn (.func 169) [] [.ptr 0 0 0]])]) ?_ ?_
  · rintro ⟨⟩ h
    refine TriE.seqK h (fun (_ : Unit) => St.mk [] []) ?_ ?_
    · rintro ⟨⟩ h
      refine sr [(6, vi 0)] [] ?_
      refine TriE.ret ?_
      have h := Option.some.inj h
      subst h
      exact DoneS.ret (S' := ⟨[(6, vi 0)], []⟩) Sees.refl rfl rfl
    intro k2 h
    refine sj ?_
    refine rn 1 [(0, eS 6 eTask a0), (8, .ptr 1 0 0), (44, eS 1 vt a2)] [some (.row 1 [eS 1 vt a2]), some (.row 1 [.fn (.func 169) [] [.ptr 0 0 0]])] ?_
    refine jv (vi (a2.length : Int)) (cy (I0 45 (.len 0 (.t 44)))) (ok_len_m rfl) rfl ?_
    refine jq 1 [(0, eS 6 eTask a0), (8, .ptr 1 0 0), (44, eS 1 vt a2), (45, vi (a2.length : Int)), (46, vi 0)] [some (.row 1 [eS 1 vt a2]), some (.row 1 [.fn (.func 169) [] [.ptr 0 0 0]])] ?_
    refine TriE.block ?_
    refine TriE.sees (S' := ⟨[(0, eS 6 eTask a0), (8, .ptr 1 0 0), (44, eS 1 vt a2), (45, vi (a2.length : Int)), (46, vi 0)], [some (.row 1 [eS 1 vt a2]), some (.row 1 [.fn (.func 169) [] [.ptr 0 0 0]])]⟩) sy ?_
    refine TriE.loopN h (fun (v11 : Nat) => St.mk [(0, eS 6 eTask a0), (8, .ptr 1 0 0), (44, eS 1 vt a2), (45, vi (a2.length : Int)), (46, vi v11)] [some (.row 1 [eS 1 vt a2]), some (.row 1 [.fn (.func 169) [] [.ptr 0 0 0]])]) rfl ?_
    clear h
    rintro back v11 h
    dsimp only [restore_CheckClosure_L2] at h
    refine sj ?_
    refine jv (vb (decide (v11 < a2.length))) (cy (I0 47 (.bin .lss false (.t 46) (.t 45)))) (n_lss (i := v11) (j := a2.length) rfl rfl) rfl ?_
    refine jp [(0, eS 6 eTask a0), (8, .ptr 1 0 0), (44, eS 1 vt a2), (45, vi (a2.length : Int)), (46, vi v11), (47, vb (decide (v11 < a2.length)))] ?_
    refine TriE.seq ?_
    refine TriE.cond (b := decide (v11 < a2.length)) rfl (fun c8 => ?_) (fun c8 => ?_)
    · have h := cond_t h c8
      refine TriE.skip ?_
      refine TriE.seq ?_
      refine TriE.block ?_
      refine sj ?_
      refine jv (.fptr 1 (List.map vt a2) v11 0) (cy (I0 48 (.iaddr 1 (.t 44) (.t 46)))) (ok_iaddr_m (j := v11) rfl rfl rfl c8) rfl ?_
      refine jv (vt (ix a2 v11)) (cy (I0 49 (.load false 1 (.t 48)))) (ok_load_fm (v := vt (ix a2 v11)) rfl c8 rfl) rfl ?_
      refine jq 1 [(0, eS 6 eTask a0), (8, .ptr 1 0 0), (44, eS 1 vt a2), (45, vi (a2.length : Int)), (46, vi v11), (13, vt (ix a2 v11))] [some (.row 1 [eS 1 vt a2]), some (.row 1 [.fn (.func 169) [] [.ptr 0 0 0]])] ?_
      refine sj ?_
      refine rn 3 [(0, eS 6 eTask a0), (8, .ptr 1 0 0), (44, eS 1 vt a2), (45, vi (a2.length : Int)), (46, vi v11), (50, eS 6 eTask a0), (51, eS 6 eTask a0), (52, vt (ix a2 v11))] [some (.row 1 [eS 1 vt a2]), some (.row 1 [.fn (.func 169) [] [.ptr 0 0 0]])] ?_
      obtain ⟨y12, hy12, h⟩ := bind_some h
      refine RegJ.op (Op1.call (y' := vi y12) (obx := []) (oby := []) (ob2 := [some (.row 1 [eS 1 vt a2]), some (.row 1 [.fn (.func 169) [] [.ptr 0 0 0]])]) _ _ (cy (I0 53 (.call 117 [(.t 51), (.t 52)]))) rfl (restore_list_find_ok n a0 (ix a2 v11) y12 hy12) [] (by kernel_rfl) (.cons rfl (.cons rfl (.cons rfl .nil))) (by kernel_rfl) (by kernel_rfl) ObsRen.nil (by kernel_rfl) ObsRen.nil (by kernel_rfl)) ?_
      obtain ⟨c9, h⟩ := chk_some h
      refine jv (.fptr 6 (List.map eTask a0) y12.toNat 0) (cy (I0 54 (.iaddr 6 (.t 50) (.t 53)))) (ok_iaddr_m (j := y12.toNat) rfl rfl (inB_to c9) (inB_lt c9)) rfl ?_
      refine rn 1 [(0, eS 6 eTask a0), (8, .ptr 1 0 0), (44, eS 1 vt a2), (45, vi (a2.length : Int)), (46, vi v11), (55, .fptr 6 (List.map eTask a0) y12.toNat 4)] [some (.row 1 [eS 1 vt a2]), some (.row 1 [.fn (.func 169) [] [.ptr 0 0 0]])] ?_
      obtain ⟨c10, h⟩ := chk_some h
      refine jv (eS 1 (eS 1 vt) ((ix a0 y12.toNat).OneOf)) (cy (I0 56 (.load false 1 (.t 55)))) (ok_load_fm (v := eS 1 (eS 1 vt) ((ix a0 y12.toNat).OneOf)) rfl c10 rfl) rfl ?_
      refine rn 1 [(0, eS 6 eTask a0), (8, .ptr 1 0 0), (44, eS 1 vt a2), (45, vi (a2.length : Int)), (46, vi v11), (56, eS 1 (eS 1 vt) ((ix a0 y12.toNat).OneOf)), (57, .fn (.func 119) [] [.ptr 1 0 0])] [some (.row 1 [eS 1 vt a2]), some (.row 1 [.fn (.func 169) [] [.ptr 0 0 0]])] ?_
      obtain ⟨y13, hy13, h⟩ := bind_some h
      refine RegJ.op (Op1.call (y' := vb y13) (obx := [some (.row 1 [.fn (.func 169) [] [.ptr 0 0 0]]), some (.row 1 [eS 1 vt a2])]) (oby := [some (.row 1 [.fn (.func 169) [] [.ptr 0 0 0]]), some (.row 1 [eS 1 vt a2])]) (ob2 := [some (.row 1 [eS 1 vt a2]), some (.row 1 [.fn (.func 169) [] [.ptr 0 0 0]])]) _ _ (cy (I0 58 (.call 118 [(.t 56), (.t 57)]))) rfl (slices_ContainsFunc_string_5_ok n ((ix a0 y12.toNat).OneOf) a2 y13 hy13) [1, 0] (by kernel_rfl) (.cons rfl (.cons rfl (.cons rfl .nil))) (by kernel_rfl) (by kernel_rfl) (.cons rfl (.cons rfl .nil)) (by kernel_rfl) (.cons rfl (.cons rfl .nil)) (by kernel_rfl)) ?_
      refine jp [(0, eS 6 eTask a0), (8, .ptr 1 0 0), (44, eS 1 vt a2), (45, vi (a2.length : Int)), (46, vi v11), (58, vb y13)] ?_
      refine TriE.cond (b := y13) rfl (fun c11 => ?_) (fun c11 => ?_)
      · have h := cond_t h c11
        refine sr [(6, vi 12)] [some (.row 1 [eS 1 vt a2]), some (.row 1 [.fn (.func 169) [] [.ptr 0 0 0]])] ?_
        refine TriE.ret ?_
        have h := Option.some.inj h
        subst h
        exact DoneS.ret (S' := ⟨[(6, vi 12)], []⟩) (sc [] (by decide) (by kernel_rfl) ObRen.nil rfl rfl) rfl rfl
      have h := cond_f h c11
      refine TriE.skip ?_
      refine TriE.regJ ?_
      obtain ⟨c12, h⟩ := chk_some h
      refine jv (vi ((v11 + 1 : Nat) : Int)) (cy (I0 59 (.bin .add false (.t 46) (.c (.p (.int .i64 1)))))) (r_addn (i := v11) (j := 1) rfl rfl c12) rfl ?_
      refine jq 1 [(0, eS 6 eTask a0), (8, .ptr 1 0 0), (44, eS 1 vt a2), (45, vi (a2.length : Int)), (46, vi ((v11 + 1 : Nat) : Int))] [some (.row 1 [eS 1 vt a2]), some (.row 1 [.fn (.func 169) [] [.ptr 0 0 0]])] ?_
      exact Vs.intro sy ⟨(v11 + 1), rfl, h⟩
    have h := cond_f h c8
    refine TriE.exit ?_
    exact Vs.intro (sc [] (by decide) (by kernel_rfl) ObRen.nil rfl rfl) ⟨(), rfl, h⟩
  intro k1 h
  refine sj ?_
  refine rn 1 [(0, eS 6 eTask a0), (2, eS 1 vt a2), (8, .ptr 2 0 0), (9, .fn (.func 115) [] [.ptr 2 0 0]), (28, eS 1 vt a2)] [none, some (.row 1 [eS 1 vt a2]), some (.row 1 [.fn (.func 169) [] [.ptr 1 0 0]])] ?_
  refine jv (vi (a2.length : Int)) (cy (I0 29 (.len 0 (.t 28)))) (ok_len_m rfl) rfl ?_
  refine jq 1 [(0, eS 6 eTask a0), (2, eS 1 vt a2), (8, .ptr 2 0 0), (9, .fn (.func 115) [] [.ptr 2 0 0]), (28, eS 1 vt a2), (29, vi (a2.length : Int)), (30, vi 0)] [none, some (.row 1 [eS 1 vt a2]), some (.row 1 [.fn (.func 169) [] [.ptr 1 0 0]])] ?_
  refine TriE.block ?_
  refine TriE.sees (S' := ⟨[(0, eS 6 eTask a0), (2, eS 1 vt a2), (8, .ptr 1 0 0), (9, .fn (.func 115) [] [.ptr 1 0 0]), (28, eS 1 vt a2), (29, vi (a2.length : Int)), (30, vi 0)], [some (.row 1 [eS 1 vt a2]), some (.row 1 [.fn (.func 169) [] [.ptr 0 0 0]])]⟩) (sc [1, 2] (by decide) (by kernel_rfl) (.cons rfl (.cons rfl .nil)) rfl rfl) ?_
  refine TriE.loopN h (fun (v6 : Nat) => St.mk [(0, eS 6 eTask a0), (2, eS 1 vt a2), (8, .ptr 1 0 0), (9, .fn (.func 115) [] [.ptr 1 0 0]), (28, eS 1 vt a2), (29, vi (a2.length : Int)), (30, vi v6)] [some (.row 1 [eS 1 vt a2]), some (.row 1 [.fn (.func 169) [] [.ptr 0 0 0]])]) rfl ?_
  clear h
  rintro back v6 h
  dsimp only [restore_CheckClosure_L1] at h
  refine sj ?_
  refine jv (vb (decide (v6 < a2.length))) (cy (I0 31 (.bin .lss false (.t 30) (.t 29)))) (n_lss (i := v6) (j := a2.length) rfl rfl) rfl ?_
  refine jp [(0, eS 6 eTask a0), (2, eS 1 vt a2), (8, .ptr 1 0 0), (9, .fn (.func 115) [] [.ptr 1 0 0]), (28, eS 1 vt a2), (29, vi (a2.length : Int)), (30, vi v6), (31, vb (decide (v6 < a2.length)))] ?_
  refine TriE.seq ?_
  refine TriE.cond (b := decide (v6 < a2.length)) rfl (fun c3 => ?_) (fun c3 => ?_)
  · have h := cond_t h c3
    refine TriE.skip ?_
    refine TriE.seq ?_
    refine TriE.block ?_
    refine sj ?_
    refine jv (.fptr 1 (List.map vt a2) v6 0) (cy (I0 32 (.iaddr 1 (.t 28) (.t 30)))) (ok_iaddr_m (j := v6) rfl rfl rfl c3) rfl ?_
    refine jv (vt (ix a2 v6)) (cy (I0 33 (.load false 1 (.t 32)))) (ok_load_fm (v := vt (ix a2 v6)) rfl c3 rfl) rfl ?_
    refine jq 1 [(0, eS 6 eTask a0), (2, eS 1 vt a2), (8, .ptr 1 0 0), (9, .fn (.func 115) [] [.ptr 1 0 0]), (28, eS 1 vt a2), (29, vi (a2.length : Int)), (30, vi v6), (11, vt (ix a2 v6))] [some (.row 1 [eS 1 vt a2]), some (.row 1 [.fn (.func 169) [] [.ptr 0 0 0]])] ?_
    refine sj ?_
    refine rn 3 [(0, eS 6 eTask a0), (2, eS 1 vt a2), (8, .ptr 1 0 0), (9, .fn (.func 115) [] [.ptr 1 0 0]), (28, eS 1 vt a2), (29, vi (a2.length : Int)), (30, vi v6), (34, eS 6 eTask a0), (35, eS 6 eTask a0), (36, vt (ix a2 v6))] [some (.row 1 [eS 1 vt a2]), some (.row 1 [.fn (.func 169) [] [.ptr 0 0 0]])] ?_
    obtain ⟨y7, hy7, h⟩ := bind_some h
    refine RegJ.op (Op1.call (y' := vi y7) (obx := []) (oby := []) (ob2 := [some (.row 1 [eS 1 vt a2]), some (.row 1 [.fn (.func 169) [] [.ptr 0 0 0]])]) _ _ (cy (I0 37 (.call 117 [(.t 35), (.t 36)]))) rfl (restore_list_find_ok n a0 (ix a2 v6) y7 hy7) [] (by kernel_rfl) (.cons rfl (.cons rfl (.cons rfl .nil))) (by kernel_rfl) (by kernel_rfl) ObsRen.nil (by kernel_rfl) ObsRen.nil (by kernel_rfl)) ?_
    obtain ⟨c4, h⟩ := chk_some h
    refine jv (.fptr 6 (List.map eTask a0) y7.toNat 0) (cy (I0 38 (.iaddr 6 (.t 34) (.t 37)))) (ok_iaddr_m (j := y7.toNat) rfl rfl (inB_to c4) (inB_lt c4)) rfl ?_
    refine rn 1 [(0, eS 6 eTask a0), (2, eS 1 vt a2), (8, .ptr 1 0 0), (9, .fn (.func 115) [] [.ptr 1 0 0]), (28, eS 1 vt a2), (29, vi (a2.length : Int)), (30, vi v6), (39, .fptr 6 (List.map eTask a0) y7.toNat 3)] [some (.row 1 [eS 1 vt a2]), some (.row 1 [.fn (.func 169) [] [.ptr 0 0 0]])] ?_
    obtain ⟨c5, h⟩ := chk_some h
    refine jv (eS 1 vt ((ix a0 y7.toNat).Needs)) (cy (I0 40 (.load false 1 (.t 39)))) (ok_load_fm (v := eS 1 vt ((ix a0 y7.toNat).Needs)) rfl c5 rfl) rfl ?_
    refine rn 1 [(0, eS 6 eTask a0), (2, eS 1 vt a2), (8, .ptr 1 0 0), (9, .fn (.func 115) [] [.ptr 1 0 0]), (28, eS 1 vt a2), (29, vi (a2.length : Int)), (30, vi v6), (40, eS 1 vt ((ix a0 y7.toNat).Needs)), (41, .fn (.func 115) [] [.ptr 1 0 0])] [some (.row 1 [eS 1 vt a2]), some (.row 1 [.fn (.func 169) [] [.ptr 0 0 0]])] ?_
    obtain ⟨y8, hy8, h⟩ := bind_some h
    refine RegJ.op (Op1.call (y' := vb y8) (obx := [some (.row 1 [.fn (.func 169) [] [.ptr 0 0 0]]), some (.row 1 [eS 1 vt a2])]) (oby := [some (.row 1 [.fn (.func 169) [] [.ptr 0 0 0]]), some (.row 1 [eS 1 vt a2])]) (ob2 := [some (.row 1 [eS 1 vt a2]), some (.row 1 [.fn (.func 169) [] [.ptr 0 0 0]])]) _ _ (cy (I0 42 (.call 116 [(.t 40), (.t 41)]))) rfl (slices_ContainsFunc_string_4_ok n ((ix a0 y7.toNat).Needs) a2 y8 hy8) [1, 0] (by kernel_rfl) (.cons rfl (.cons rfl (.cons rfl .nil))) (by kernel_rfl) (by kernel_rfl) (.cons rfl (.cons rfl .nil)) (by kernel_rfl) (.cons rfl (.cons rfl .nil)) (by kernel_rfl)) ?_
    refine jp [(0, eS 6 eTask a0), (2, eS 1 vt a2), (8, .ptr 1 0 0), (9, .fn (.func 115) [] [.ptr 1 0 0]), (28, eS 1 vt a2), (29, vi (a2.length : Int)), (30, vi v6), (42, vb y8)] ?_
    refine TriE.cond (b := y8) rfl (fun c6 => ?_) (fun c6 => ?_)
    · have h := cond_t h c6
      refine sr [(6, vi 14)] [some (.row 1 [eS 1 vt a2]), some (.row 1 [.fn (.func 169) [] [.ptr 0 0 0]])] ?_
      refine TriE.ret ?_
      have h := Option.some.inj h
      subst h
      exact DoneS.ret (S' := ⟨[(6, vi 14)], []⟩) (sc [] (by decide) (by kernel_rfl) ObRen.nil rfl rfl) rfl rfl
    have h := cond_f h c6
    refine TriE.skip ?_
    refine TriE.regJ ?_
    obtain ⟨c7, h⟩ := chk_some h
    refine jv (vi ((v6 + 1 : Nat) : Int)) (cy (I0 43 (.bin .add false (.t 30) (.c (.p (.int .i64 1)))))) (r_addn (i := v6) (j := 1) rfl rfl c7) rfl ?_
    refine jq 1 [(0, eS 6 eTask a0), (2, eS 1 vt a2), (8, .ptr 1 0 0), (9, .fn (.func 115) [] [.ptr 1 0 0]), (28, eS 1 vt a2), (29, vi (a2.length : Int)), (30, vi ((v6 + 1 : Nat) : Int))] [some (.row 1 [eS 1 vt a2]), some (.row 1 [.fn (.func 169) [] [.ptr 0 0 0]])] ?_
    exact Vs.intro sy ⟨(v6 + 1), rfl, h⟩
  have h := cond_f h c3
  refine TriE.exit ?_
  exact Vs.intro sy ⟨(), rfl, h⟩
theorem restore_ByFirst_f1_ok_ (n : Nat) : ∀ (fu : Nat) (a0 : Str) (a1 : List (Str × Bool)) (a2 : List Task) (r : (List (Str × Bool))), loopN (restore_ByFirst_f1_F n) fu (a0, a1, a2) = some r → FnL Tryz.prog 120 [vt a0, .ptr 0 0 0, .ptr 2 0 0, .ptr 3 0 0] [some (.row 1 [.map 1]), some (.mp (mpE vt vb a1)), some (.row 1 [eS 6 eTask a2]), some (.row 1 [.fn (.func 120) [] [.ptr 0 0 0, .ptr 2 0 0, .ptr 3 0 0]])] (.tup []) [some (.row 1 [.map 1]), some (.mp (mpE vt vb r)), some (.row 1 [eS 6 eTask a2]), some (.row 1 [.fn (.func 120) [] [.ptr 0 0 0, .ptr 2 0 0, .ptr 3 0 0]])] := by
  intro fu
  induction fu with
  | zero =>
    intro a0 a1 a2 r h
    cases h
  | succ fu ih =>
    intro a0 a1 a2 r h
    replace h : restore_ByFirst_f1_F n (loopN (restore_ByFirst_f1_F n) fu) (a0, a1, a2) = some r := h
    dsimp only [restore_ByFirst_f1_F] at h
    refine FnL.ofS (ts := []) Tryz.call120 Tryz.func120 rfl rfl (Nat.le_of_ble_eq_true rfl) (Nat.le_of_ble_eq_true rfl) (hall_of (.cons rfl (.cons rfl (.cons rfl (.cons rfl .nil))))) ?_
    refine TriE.seq ?_
    refine sj ?_
    refine rn 2 [(0, vt a0), (1, .ptr 0 0 0), (2, .ptr 2 0 0), (3, .ptr 3 0 0), (10, .map 1), (11, vt a0)] [some (.row 1 [.map 1]), some (.mp (mpE vt vb a1)), some (.row 1 [eS 6 eTask a2]), some (.row 1 [.fn (.func 120) [] [.ptr 0 0 0, .ptr 2 0 0, .ptr 3 0 0]])] ?_
    refine jv (vb (Option.getD (List.lookup a0 a1) false)) (cy (I0 12 (.lookup true (.p (.bool false)) false (.t 10) (.t 11)))) (ok_lookup_s (l := a1) (ev := vb) (z0 := false) rfl rfl rfl rfl) rfl ?_
    refine jp [(0, vt a0), (1, .ptr 0 0 0), (2, .ptr 2 0 0), (3, .ptr 3 0 0), (12, vb (Option.getD (List.lookup a0 a1) false))] ?_
    refine TriE.cond (b := (Option.getD (List.lookup a0 a1) false)) rfl (fun c1 => ?_) (fun c1 => ?_)
    · have h := cond_t h c1
      refine TriE.ret ?_
      have h := Option.some.inj h
      subst h
      exact DoneS.ret (S' := ⟨[], [some (.row 1 [.map 1]), some (.mp (mpE vt vb a1)), some (.row 1 [eS 6 eTask a2]), some (.row 1 [.fn (.func 120) [] [.ptr 0 0 0, .ptr 2 0 0, .ptr 3 0 0]])]⟩) sy rfl rfl
    have h := cond_f h c1
    refine TriE.skip ?_
    refine sj ?_
    refine rn 2 [(0, vt a0), (2, .ptr 2 0 0), (3, .ptr 3 0 0), (13, .map 1), (14, vt a0)] [some (.row 1 [.map 1]), some (.mp (mpE vt vb a1)), some (.row 1 [eS 6 eTask a2]), some (.row 1 [.fn (.func 120) [] [.ptr 0 0 0, .ptr 2 0 0, .ptr 3 0 0]])] ?_
    refine je (.undef) [some (.row 1 [.map 1]), some (.mp (mpE vt vb (mPut a0 true a1))), some (.row 1 [eS 6 eTask a2]), some (.row 1 [.fn (.func 120) [] [.ptr 0 0 0, .ptr 2 0 0, .ptr 3 0 0]])] (cy (IN (.mapset true (.t 13) (.t 14) (.c (.p (.bool true)))))) (ok_mapset_s (l := a1) (ev := vb) (v := true) rfl rfl rfl rfl) rfl rfl rfl ?_
    refine jp [(0, vt a0), (2, .ptr 2 0 0), (3, .ptr 3 0 0)] ?_
    refine TriE.seq ?_
    refine TriE.sees (Sees.less (fr' := [(0, vt a0), (2, .ptr 2 0 0), (3, .ptr 3 0 0)]) (.cons rfl (.cons rfl (.cons rfl .nil)))) ?_
    refine TriE.draw (by kernel_rfl) ?_
    refine RegD.run 3 [(17, vt a0), (16, eS 6 eTask a2), (15, eS 6 eTask a2), (0, vt a0), (2, .ptr 2 0 0), (3, .ptr 3 0 0)] [some (.row 1 [.map 1]), some (.mp (mpE vt vb (mPut a0 true a1))), some (.row 1 [eS 6 eTask a2]), some (.row 1 [.fn (.func 120) [] [.ptr 0 0 0, .ptr 2 0 0, .ptr 3 0 0]]), none, none, none] (by kernel_rfl) ?_
    obtain ⟨y1, hy1, h⟩ := bind_some h
    refine RegD.op (OpD.call (y' := vi y1) (obx := []) (oby := []) (ob2 := [some (.row 1 [.map 1]), some (.mp (mpE vt vb (mPut a0 true a1))), some (.row 1 [eS 6 eTask a2]), some (.row 1 [.fn (.func 120) [] [.ptr 0 0 0, .ptr 2 0 0, .ptr 3 0 0]]), none, none, none, none]) (tch := []) 0 _ _ (cy (I0 18 (.call 117 [(.t 16), (.t 17)]))) (restore_list_find_ok n a2 a0 y1 hy1) [] (by kernel_rfl) (.cons rfl (.cons rfl (.cons rfl .nil))) (by kernel_rfl) (by kernel_rfl) ObsRen.nil (by kernel_rfl) ObsRen.nil (by kernel_rfl) rfl (.inr ⟨rfl, rfl⟩)) ?_
    obtain ⟨c2, h⟩ := chk_some h
    refine dv (.fptr 6 (List.map eTask a2) y1.toNat 0) (cy (I0 19 (.iaddr 6 (.t 15) (.t 18)))) (ok_iaddr_m (j := y1.toNat) rfl rfl (inB_to c2) (inB_lt c2)) rfl ?_
    obtain ⟨c3, h⟩ := chk_some h
    refine dv (.agg [vt ((ix a2 y1.toNat).Name), vi ((ix a2 y1.toNat).Cents), vi ((ix a2 y1.toNat).Hours), eS 1 vt ((ix a2 y1.toNat).Needs), eS 1 (eS 1 vt) ((ix a2 y1.toNat).OneOf), eS 2 ePartCount ((ix a2 y1.toNat).Parts)]) (cy (I0 20 (.load true 6 (.t 19)))) (ok_load_fm (v := .agg [vt ((ix a2 y1.toNat).Name), vi ((ix a2 y1.toNat).Cents), vi ((ix a2 y1.toNat).Hours), eS 1 vt ((ix a2 y1.toNat).Needs), eS 1 (eS 1 vt) ((ix a2 y1.toNat).OneOf), eS 2 ePartCount ((ix a2 y1.toNat).Parts)]) rfl c3 rfl) rfl ?_
    refine RegD.run 2 [(5, .ptr 10 0 0), (20, .agg [vt ((ix a2 y1.toNat).Name), vi ((ix a2 y1.toNat).Cents), vi ((ix a2 y1.toNat).Hours), eS 1 vt ((ix a2 y1.toNat).Needs), eS 1 (eS 1 vt) ((ix a2 y1.toNat).OneOf), eS 2 ePartCount ((ix a2 y1.toNat).Parts)]), (19, .fptr 6 (List.map eTask a2) y1.toNat 0), (18, vi y1), (17, vt a0), (16, eS 6 eTask a2), (15, eS 6 eTask a2), (0, vt a0), (2, .ptr 2 0 0), (3, .ptr 3 0 0)] [some (.row 1 [.map 1]), some (.mp (mpE vt vb (mPut a0 true a1))), some (.row 1 [eS 6 eTask a2]), some (.row 1 [.fn (.func 120) [] [.ptr 0 0 0, .ptr 2 0 0, .ptr 3 0 0]]), none, none, none, none, none, none, some (.row 6 [.agg [vt ((ix a2 y1.toNat).Name), vi ((ix a2 y1.toNat).Cents), vi ((ix a2 y1.toNat).Hours), eS 1 vt ((ix a2 y1.toNat).Needs), eS 1 (eS 1 vt) ((ix a2 y1.toNat).OneOf), eS 2 ePartCount ((ix a2 y1.toNat).Parts)]]), none] (by kernel_rfl) ?_
    refine RegD.done rfl (by kernel_rfl) (S' := ⟨[(3, .ptr 3 0 0), (5, .ptr 4 0 0)], [some (.row 1 [.map 1]), some (.mp (mpE vt vb (mPut a0 true a1))), some (.row 1 [eS 6 eTask a2]), some (.row 1 [.fn (.func 120) [] [.ptr 0 0 0, .ptr 2 0 0, .ptr 3 0 0]]), some (.row 6 [.agg [vt ((ix a2 y1.toNat).Name), vi ((ix a2 y1.toNat).Cents), vi ((ix a2 y1.toNat).Hours), eS 1 vt ((ix a2 y1.toNat).Needs), eS 1 (eS 1 vt) ((ix a2 y1.toNat).OneOf), eS 2 ePartCount ((ix a2 y1.toNat).Parts)]])]⟩) (sc [0, 1, 2, 3, 10] (by decide) (by kernel_rfl) (.cons rfl (obRen_mp vt_frz vb_frz rfl (.cons rfl (.cons rfl (.cons rfl .nil))))) rfl rfl) ?_
    refine TriE.seqK h (fun (v6 : (List (Str × Bool))) => St.mk [(3, .ptr 3 0 0), (5, .ptr 4 0 0)] [some (.row 1 [.map 1]), some (.mp (mpE vt vb v6)), some (.row 1 [eS 6 eTask a2]), some (.row 1 [.fn (.func 120) [] [.ptr 0 0 0, .ptr 2 0 0, .ptr 3 0 0]]), some (.row 6 [.agg [vt ((ix a2 y1.toNat).Name), vi ((ix a2 y1.toNat).Cents), vi ((ix a2 y1.toNat).Hours), eS 1 vt ((ix a2 y1.toNat).Needs), eS 1 (eS 1 vt) ((ix a2 y1.toNat).OneOf), eS 2 ePartCount ((ix a2 y1.toNat).Parts)]])]) ?_ ?_
    · rintro v6 h
      refine sj ?_
      refine rn 2 [(3, .ptr 3 0 0), (33, eS 1 (eS 1 vt) ((ix a2 y1.toNat).OneOf))] [some (.row 1 [.map 1]), some (.mp (mpE vt vb v6)), some (.row 1 [eS 6 eTask a2]), some (.row 1 [.fn (.func 120) [] [.ptr 0 0 0, .ptr 2 0 0, .ptr 3 0 0]]), some (.row 6 [.agg [vt ((ix a2 y1.toNat).Name), vi ((ix a2 y1.toNat).Cents), vi ((ix a2 y1.toNat).Hours), eS 1 vt ((ix a2 y1.toNat).Needs), eS 1 (eS 1 vt) ((ix a2 y1.toNat).OneOf), eS 2 ePartCount ((ix a2 y1.toNat).Parts)]])] ?_
      refine jv (vi ((((ix a2 y1.toNat).OneOf).length : Nat) : Int)) (cy (I0 34 (.len 0 (.t 33)))) (ok_len_m rfl) rfl ?_
      refine jq 1 [(3, .ptr 3 0 0), (33, eS 1 (eS 1 vt) ((ix a2 y1.toNat).OneOf)), (34, vi ((((ix a2 y1.toNat).OneOf).length : Nat) : Int)), (35, vi 0)] [some (.row 1 [.map 1]), some (.mp (mpE vt vb v6)), some (.row 1 [eS 6 eTask a2]), some (.row 1 [.fn (.func 120) [] [.ptr 0 0 0, .ptr 2 0 0, .ptr 3 0 0]]), some (.row 6 [.agg [vt ((ix a2 y1.toNat).Name), vi ((ix a2 y1.toNat).Cents), vi ((ix a2 y1.toNat).Hours), eS 1 vt ((ix a2 y1.toNat).Needs), eS 1 (eS 1 vt) ((ix a2 y1.toNat).OneOf), eS 2 ePartCount ((ix a2 y1.toNat).Parts)]])] ?_
      refine TriE.block ?_
      refine TriE.sees (S' := ⟨[(3, .ptr 3 0 0), (33, eS 1 (eS 1 vt) ((ix a2 y1.toNat).OneOf)), (34, vi ((((ix a2 y1.toNat).OneOf).length : Nat) : Int)), (35, vi 0)], [some (.row 1 [.map 1]), some (.mp (mpE vt vb v6)), some (.row 1 [eS 6 eTask a2]), some (.row 1 [.fn (.func 120) [] [.ptr 0 0 0, .ptr 2 0 0, .ptr 3 0 0]])]⟩) (sc [0, 1, 2, 3] (by decide) (by kernel_rfl) (.cons rfl (obRen_mp vt_frz vb_frz rfl (.cons rfl (.cons rfl .nil)))) rfl rfl) ?_
      refine TriE.loopN h (fun (t : Nat × (List (Str × Bool))) => match t with | (v8, v9) => St.mk [(3, .ptr 3 0 0), (33, eS 1 (eS 1 vt) ((ix a2 y1.toNat).OneOf)), (34, vi ((((ix a2 y1.toNat).OneOf).length : Nat) : Int)), (35, vi v8)] [some (.row 1 [.map 1]), some (.mp (mpE vt vb v9)), some (.row 1 [eS 6 eTask a2]), some (.row 1 [.fn (.func 120) [] [.ptr 0 0 0, .ptr 2 0 0, .ptr 3 0 0]])]) rfl ?_
      clear h
      rintro back ⟨v8, v9⟩ h
      dsimp only [restore_ByFirst_f1_L2] at h
      refine sj ?_
      refine jv (vb (decide (v8 < (((ix a2 y1.toNat).OneOf).length)))) (cy (I0 36 (.bin .lss false (.t 35) (.t 34)))) (n_lss (i := v8) (j := ((ix a2 y1.toNat).OneOf).length) rfl rfl) rfl ?_
      refine jp [(3, .ptr 3 0 0), (33, eS 1 (eS 1 vt) ((ix a2 y1.toNat).OneOf)), (34, vi ((((ix a2 y1.toNat).OneOf).length : Nat) : Int)), (35, vi v8), (36, vb (decide (v8 < (((ix a2 y1.toNat).OneOf).length))))] ?_
      refine TriE.seq ?_
      refine TriE.cond (b := decide (v8 < (((ix a2 y1.toNat).OneOf).length))) rfl (fun c7 => ?_) (fun c7 => ?_)
      · have h := cond_t h c7
        refine TriE.skip ?_
        refine TriE.seq ?_
        refine TriE.block ?_
        refine sj ?_
        obtain ⟨c8, h⟩ := chk_some h
        refine jv (.fptr 1 (List.map (eS 1 vt) ((ix a2 y1.toNat).OneOf)) v8 0) (cy (I0 37 (.iaddr 1 (.t 33) (.t 35)))) (ok_iaddr_m (j := v8) rfl rfl rfl c8) rfl ?_
        refine jv (eS 1 vt (ix ((ix a2 y1.toNat).OneOf) v8)) (cy (I0 38 (.load false 1 (.t 37)))) (ok_load_fm (v := eS 1 vt (ix ((ix a2 y1.toNat).OneOf) v8)) rfl c8 rfl) rfl ?_
        refine jq 1 [(3, .ptr 3 0 0), (33, eS 1 (eS 1 vt) ((ix a2 y1.toNat).OneOf)), (34, vi ((((ix a2 y1.toNat).OneOf).length : Nat) : Int)), (35, vi v8), (9, eS 1 vt (ix ((ix a2 y1.toNat).OneOf) v8))] [some (.row 1 [.map 1]), some (.mp (mpE vt vb v9)), some (.row 1 [eS 6 eTask a2]), some (.row 1 [.fn (.func 120) [] [.ptr 0 0 0, .ptr 2 0 0, .ptr 3 0 0]])] ?_
        refine TriE.sees (Sees.less (fr' := [(3, .ptr 3 0 0), (33, eS 1 (eS 1 vt) ((ix a2 y1.toNat).OneOf)), (34, vi ((((ix a2 y1.toNat).OneOf).length : Nat) : Int)), (35, vi v8), (9, eS 1 vt (ix ((ix a2 y1.toNat).OneOf) v8))]) (.cons rfl (.cons rfl (.cons rfl (.cons rfl (.cons rfl .nil)))))) ?_
        refine TriE.draw (by kernel_rfl) ?_
        refine RegD.run 2 [(40, eS 1 vt (ix ((ix a2 y1.toNat).OneOf) v8)), (39, .fn (.func 120) [] [.ptr 0 0 0, .ptr 2 0 0, .ptr 3 0 0]), (3, .ptr 3 0 0), (33, eS 1 (eS 1 vt) ((ix a2 y1.toNat).OneOf)), (34, vi ((((ix a2 y1.toNat).OneOf).length : Nat) : Int)), (35, vi v8), (9, eS 1 vt (ix ((ix a2 y1.toNat).OneOf) v8))] [some (.row 1 [.map 1]), some (.mp (mpE vt vb v9)), some (.row 1 [eS 6 eTask a2]), some (.row 1 [.fn (.func 120) [] [.ptr 0 0 0, .ptr 2 0 0, .ptr 3 0 0]]), none, none] (by kernel_rfl) ?_
        obtain ⟨c9, h⟩ := chk_some h
        refine dv (.fptr 1 (List.map vt (ix ((ix a2 y1.toNat).OneOf) v8)) 0 0) (cy (I0 41 (.iaddr 1 (.t 40) (.c (.p (.int .i64 0)))))) (ok_iaddr_m (j := 0) rfl rfl rfl c9) rfl ?_
        refine dv (vt (ix (ix ((ix a2 y1.toNat).OneOf) v8) 0)) (cy (I0 42 (.load false 1 (.t 41)))) (ok_load_fm (v := vt (ix (ix ((ix a2 y1.toNat).OneOf) v8) 0)) rfl c9 rfl) rfl ?_
        obtain ⟨y10, hy10, h⟩ := bind_some h
        refine RegD.op (OpD.dyn (y' := .tup []) (obx := [some (.row 1 [.map 1]), some (.mp (mpE vt vb v9)), some (.row 1 [eS 6 eTask a2]), some (.row 1 [.fn (.func 120) [] [.ptr 0 0 0, .ptr 2 0 0, .ptr 3 0 0]])]) (oby := [some (.row 1 [.map 1]), some (.mp (mpE vt vb y10)), some (.row 1 [eS 6 eTask a2]), some (.row 1 [.fn (.func 120) [] [.ptr 0 0 0, .ptr 2 0 0, .ptr 3 0 0]])]) (ob2 := [some (.row 1 [.map 1]), some (.mp (mpE vt vb y10)), some (.row 1 [eS 6 eTask a2]), some (.row 1 [.fn (.func 120) [] [.ptr 0 0 0, .ptr 2 0 0, .ptr 3 0 0]]), none, none, none, none, none]) (tch := [0, 1, 2, 3]) 0 _ _ _ (cy (I0 43 (.dyn (.t 39) [(.t 42)]))) rfl (ih (ix (ix ((ix a2 y1.toNat).OneOf) v8) 0) v9 a2 y10 hy10) [0, 1, 2, 3] (by kernel_rfl) (.cons rfl (.cons rfl .nil)) (by kernel_rfl) (by kernel_rfl) (.cons rfl (.same (mp_ren vt_frz vb_frz _ _) (.cons rfl (.cons rfl .nil)))) (by kernel_rfl) (.cons rfl (.same (mp_ren vt_frz vb_frz _ _) (.cons rfl (.cons rfl .nil)))) (by kernel_rfl) rfl (.inl rfl)) ?_
        refine RegD.done rfl (by kernel_rfl) (S' := ⟨[(3, .ptr 3 0 0), (33, eS 1 (eS 1 vt) ((ix a2 y1.toNat).OneOf)), (34, vi ((((ix a2 y1.toNat).OneOf).length : Nat) : Int)), (35, vi v8)], [some (.row 1 [.map 1]), some (.mp (mpE vt vb y10)), some (.row 1 [eS 6 eTask a2]), some (.row 1 [.fn (.func 120) [] [.ptr 0 0 0, .ptr 2 0 0, .ptr 3 0 0]])]⟩) (sc [0, 1, 2, 3] (by decide) (by kernel_rfl) (.cons rfl (obRen_mp vt_frz vb_frz rfl (.cons rfl (.cons rfl .nil)))) rfl rfl) ?_
        refine TriE.regJ ?_
        obtain ⟨c10, h⟩ := chk_some h
        refine jv (vi ((v8 + 1 : Nat) : Int)) (cy (I0 44 (.bin .add false (.t 35) (.c (.p (.int .i64 1)))))) (r_addn (i := v8) (j := 1) rfl rfl c10) rfl ?_
        refine jq 1 [(3, .ptr 3 0 0), (33, eS 1 (eS 1 vt) ((ix a2 y1.toNat).OneOf)), (34, vi ((((ix a2 y1.toNat).OneOf).length : Nat) : Int)), (35, vi ((v8 + 1 : Nat) : Int))] [some (.row 1 [.map 1]), some (.mp (mpE vt vb y10)), some (.row 1 [eS 6 eTask a2]), some (.row 1 [.fn (.func 120) [] [.ptr 0 0 0, .ptr 2 0 0, .ptr 3 0 0]])] ?_
        exact Vs.intro sy ⟨(v8 + 1, y10), rfl, h⟩
      have h := cond_f h c7
      refine TriE.exit ?_
      have h := Option.some.inj h
      subst h
      exact DoneS.normal (S' := ⟨[], [some (.row 1 [.map 1]), some (.mp (mpE vt vb v9)), some (.row 1 [eS 6 eTask a2]), some (.row 1 [.fn (.func 120) [] [.ptr 0 0 0, .ptr 2 0 0, .ptr 3 0 0]])]⟩) sy rfl rfl
    intro k1 h
    refine sj ?_
    refine rn 2 [(3, .ptr 3 0 0), (5, .ptr 4 0 0), (22, eS 1 vt ((ix a2 y1.toNat).Needs))] [some (.row 1 [.map 1]), some (.mp (mpE vt vb (mPut a0 true a1))), some (.row 1 [eS 6 eTask a2]), some (.row 1 [.fn (.func 120) [] [.ptr 0 0 0, .ptr 2 0 0, .ptr 3 0 0]]), some (.row 6 [.agg [vt ((ix a2 y1.toNat).Name), vi ((ix a2 y1.toNat).Cents), vi ((ix a2 y1.toNat).Hours), eS 1 vt ((ix a2 y1.toNat).Needs), eS 1 (eS 1 vt) ((ix a2 y1.toNat).OneOf), eS 2 ePartCount ((ix a2 y1.toNat).Parts)]])] ?_
    refine jv (vi ((((ix a2 y1.toNat).Needs).length : Nat) : Int)) (cy (I0 23 (.len 0 (.t 22)))) (ok_len_m rfl) rfl ?_
    refine jq 1 [(3, .ptr 3 0 0), (5, .ptr 4 0 0), (22, eS 1 vt ((ix a2 y1.toNat).Needs)), (23, vi ((((ix a2 y1.toNat).Needs).length : Nat) : Int)), (24, vi 0)] [some (.row 1 [.map 1]), some (.mp (mpE vt vb (mPut a0 true a1))), some (.row 1 [eS 6 eTask a2]), some (.row 1 [.fn (.func 120) [] [.ptr 0 0 0, .ptr 2 0 0, .ptr 3 0 0]]), some (.row 6 [.agg [vt ((ix a2 y1.toNat).Name), vi ((ix a2 y1.toNat).Cents), vi ((ix a2 y1.toNat).Hours), eS 1 vt ((ix a2 y1.toNat).Needs), eS 1 (eS 1 vt) ((ix a2 y1.toNat).OneOf), eS 2 ePartCount ((ix a2 y1.toNat).Parts)]])] ?_
    refine TriE.block ?_
    refine TriE.sees (S' := ⟨[(3, .ptr 3 0 0), (5, .ptr 4 0 0), (22, eS 1 vt ((ix a2 y1.toNat).Needs)), (23, vi ((((ix a2 y1.toNat).Needs).length : Nat) : Int)), (24, vi 0)], [some (.row 1 [.map 1]), some (.mp (mpE vt vb (mPut a0 true a1))), some (.row 1 [eS 6 eTask a2]), some (.row 1 [.fn (.func 120) [] [.ptr 0 0 0, .ptr 2 0 0, .ptr 3 0 0]]), some (.row 6 [.agg [vt ((ix a2 y1.toNat).Name), vi ((ix a2 y1.toNat).Cents), vi ((ix a2 y1.toNat).Hours), eS 1 vt ((ix a2 y1.toNat).Needs), eS 1 (eS 1 vt) ((ix a2 y1.toNat).OneOf), eS 2 ePartCount ((ix a2 y1.toNat).Parts)]])]⟩) sy ?_
    refine TriE.loopN h (fun (t : Nat × (List (Str × Bool))) => match t with | (v3, v4) => St.mk [(3, .ptr 3 0 0), (5, .ptr 4 0 0), (22, eS 1 vt ((ix a2 y1.toNat).Needs)), (23, vi ((((ix a2 y1.toNat).Needs).length : Nat) : Int)), (24, vi v3)] [some (.row 1 [.map 1]), some (.mp (mpE vt vb v4)), some (.row 1 [eS 6 eTask a2]), some (.row 1 [.fn (.func 120) [] [.ptr 0 0 0, .ptr 2 0 0, .ptr 3 0 0]]), some (.row 6 [.agg [vt ((ix a2 y1.toNat).Name), vi ((ix a2 y1.toNat).Cents), vi ((ix a2 y1.toNat).Hours), eS 1 vt ((ix a2 y1.toNat).Needs), eS 1 (eS 1 vt) ((ix a2 y1.toNat).OneOf), eS 2 ePartCount ((ix a2 y1.toNat).Parts)]])]) rfl ?_
    clear h
    rintro back ⟨v3, v4⟩ h
    dsimp only [restore_ByFirst_f1_L1] at h
    refine sj ?_
    refine jv (vb (decide (v3 < (((ix a2 y1.toNat).Needs).length)))) (cy (I0 25 (.bin .lss false (.t 24) (.t 23)))) (n_lss (i := v3) (j := ((ix a2 y1.toNat).Needs).length) rfl rfl) rfl ?_
    refine jp [(3, .ptr 3 0 0), (5, .ptr 4 0 0), (22, eS 1 vt ((ix a2 y1.toNat).Needs)), (23, vi ((((ix a2 y1.toNat).Needs).length : Nat) : Int)), (24, vi v3), (25, vb (decide (v3 < (((ix a2 y1.toNat).Needs).length))))] ?_
    refine TriE.seq ?_
    refine TriE.cond (b := decide (v3 < (((ix a2 y1.toNat).Needs).length))) rfl (fun c4 => ?_) (fun c4 => ?_)
    · have h := cond_t h c4
      refine TriE.skip ?_
      refine TriE.seq ?_
      refine TriE.block ?_
      refine sj ?_
      obtain ⟨c5, h⟩ := chk_some h
      refine jv (.fptr 1 (List.map vt ((ix a2 y1.toNat).Needs)) v3 0) (cy (I0 26 (.iaddr 1 (.t 22) (.t 24)))) (ok_iaddr_m (j := v3) rfl rfl rfl c5) rfl ?_
      refine jv (vt (ix ((ix a2 y1.toNat).Needs) v3)) (cy (I0 27 (.load false 1 (.t 26)))) (ok_load_fm (v := vt (ix ((ix a2 y1.toNat).Needs) v3)) rfl c5 rfl) rfl ?_
      refine jq 1 [(3, .ptr 3 0 0), (5, .ptr 4 0 0), (22, eS 1 vt ((ix a2 y1.toNat).Needs)), (23, vi ((((ix a2 y1.toNat).Needs).length : Nat) : Int)), (24, vi v3), (7, vt (ix ((ix a2 y1.toNat).Needs) v3))] [some (.row 1 [.map 1]), some (.mp (mpE vt vb v4)), some (.row 1 [eS 6 eTask a2]), some (.row 1 [.fn (.func 120) [] [.ptr 0 0 0, .ptr 2 0 0, .ptr 3 0 0]]), some (.row 6 [.agg [vt ((ix a2 y1.toNat).Name), vi ((ix a2 y1.toNat).Cents), vi ((ix a2 y1.toNat).Hours), eS 1 vt ((ix a2 y1.toNat).Needs), eS 1 (eS 1 vt) ((ix a2 y1.toNat).OneOf), eS 2 ePartCount ((ix a2 y1.toNat).Parts)]])] ?_
      refine TriE.regJ ?_
      refine rn 2 [(3, .ptr 3 0 0), (5, .ptr 4 0 0), (22, eS 1 vt ((ix a2 y1.toNat).Needs)), (23, vi ((((ix a2 y1.toNat).Needs).length : Nat) : Int)), (24, vi v3), (28, .fn (.func 120) [] [.ptr 0 0 0, .ptr 2 0 0, .ptr 3 0 0]), (29, vt (ix ((ix a2 y1.toNat).Needs) v3))] [some (.row 1 [.map 1]), some (.mp (mpE vt vb v4)), some (.row 1 [eS 6 eTask a2]), some (.row 1 [.fn (.func 120) [] [.ptr 0 0 0, .ptr 2 0 0, .ptr 3 0 0]]), some (.row 6 [.agg [vt ((ix a2 y1.toNat).Name), vi ((ix a2 y1.toNat).Cents), vi ((ix a2 y1.toNat).Hours), eS 1 vt ((ix a2 y1.toNat).Needs), eS 1 (eS 1 vt) ((ix a2 y1.toNat).OneOf), eS 2 ePartCount ((ix a2 y1.toNat).Parts)]])] ?_
      obtain ⟨y5, hy5, h⟩ := bind_some h
      refine RegJ.op (Op1.dyn (y' := .tup []) (obx := [some (.row 1 [.map 1]), some (.mp (mpE vt vb v4)), some (.row 1 [eS 6 eTask a2]), some (.row 1 [.fn (.func 120) [] [.ptr 0 0 0, .ptr 2 0 0, .ptr 3 0 0]])]) (oby := [some (.row 1 [.map 1]), some (.mp (mpE vt vb y5)), some (.row 1 [eS 6 eTask a2]), some (.row 1 [.fn (.func 120) [] [.ptr 0 0 0, .ptr 2 0 0, .ptr 3 0 0]])]) (ob2 := [some (.row 1 [.map 1]), some (.mp (mpE vt vb y5)), some (.row 1 [eS 6 eTask a2]), some (.row 1 [.fn (.func 120) [] [.ptr 0 0 0, .ptr 2 0 0, .ptr 3 0 0]]), some (.row 6 [.agg [vt ((ix a2 y1.toNat).Name), vi ((ix a2 y1.toNat).Cents), vi ((ix a2 y1.toNat).Hours), eS 1 vt ((ix a2 y1.toNat).Needs), eS 1 (eS 1 vt) ((ix a2 y1.toNat).OneOf), eS 2 ePartCount ((ix a2 y1.toNat).Parts)]])]) _ _ _ (cy (I0 30 (.dyn (.t 28) [(.t 29)]))) rfl rfl (ih (ix ((ix a2 y1.toNat).Needs) v3) v4 a2 y5 hy5) [0, 1, 2, 3] (by kernel_rfl) (.cons rfl (.cons rfl .nil)) (by kernel_rfl) (by kernel_rfl) (.cons rfl (.same (mp_ren vt_frz vb_frz _ _) (.cons rfl (.cons rfl .nil)))) (by kernel_rfl) (.cons rfl (.same (mp_ren vt_frz vb_frz _ _) (.cons rfl (.cons rfl .nil)))) (by kernel_rfl)) ?_
      refine jp [(3, .ptr 3 0 0), (5, .ptr 4 0 0), (22, eS 1 vt ((ix a2 y1.toNat).Needs)), (23, vi ((((ix a2 y1.toNat).Needs).length : Nat) : Int)), (24, vi v3)] ?_
      refine TriE.regJ ?_
      obtain ⟨c6, h⟩ := chk_some h
      refine jv (vi ((v3 + 1 : Nat) : Int)) (cy (I0 31 (.bin .add false (.t 24) (.c (.p (.int .i64 1)))))) (r_addn (i := v3) (j := 1) rfl rfl c6) rfl ?_
      refine jq 1 [(3, .ptr 3 0 0), (5, .ptr 4 0 0), (22, eS 1 vt ((ix a2 y1.toNat).Needs)), (23, vi ((((ix a2 y1.toNat).Needs).length : Nat) : Int)), (24, vi ((v3 + 1 : Nat) : Int))] [some (.row 1 [.map 1]), some (.mp (mpE vt vb y5)), some (.row 1 [eS 6 eTask a2]), some (.row 1 [.fn (.func 120) [] [.ptr 0 0 0, .ptr 2 0 0, .ptr 3 0 0]]), some (.row 6 [.agg [vt ((ix a2 y1.toNat).Name), vi ((ix a2 y1.toNat).Cents), vi ((ix a2 y1.toNat).Hours), eS 1 vt ((ix a2 y1.toNat).Needs), eS 1 (eS 1 vt) ((ix a2 y1.toNat).OneOf), eS 2 ePartCount ((ix a2 y1.toNat).Parts)]])] ?_
      exact Vs.intro sy ⟨(v3 + 1, y5), rfl, h⟩
    have h := cond_f h c4
    refine TriE.exit ?_
    exact Vs.intro sy ⟨v4, rfl, h⟩
theorem restore_ByFirst_f1_ok (n : Nat) (a0 : Str) (a1 : List (Str × Bool)) (a2 : List Task) (r : (List (Str × Bool))) (h : restore_ByFirst_f1 n a0 a1 a2 = some r) : FnL Tryz.prog 120 [vt a0, .ptr 0 0 0, .ptr 2 0 0, .ptr 3 0 0] [some (.row 1 [.map 1]), some (.mp (mpE vt vb a1)), some (.row 1 [eS 6 eTask a2]), some (.row 1 [.fn (.func 120) [] [.ptr 0 0 0, .ptr 2 0 0, .ptr 3 0 0]])] (.tup []) [some (.row 1 [.map 1]), some (.mp (mpE vt vb r)), some (.row 1 [eS 6 eTask a2]), some (.row 1 [.fn (.func 120) [] [.ptr 0 0 0, .ptr 2 0 0, .ptr 3 0 0]])] := restore_ByFirst_f1_ok_ n n a0 a1 a2 r h
theorem math_bits_Len64_ok (n : Nat) (a0 : Int) (r : Int) (h : math_bits_Len64 n a0 = some r) : FnL Tryz.prog 200 [vk .u64 a0] [] (vi r) [] := by
  dsimp only [math_bits_Len64] at h
  refine FnL.ofS (ts := [2]) Tryz.call200 Tryz.func200 rfl rfl (Nat.le_of_ble_eq_true rfl) (Nat.le_of_ble_eq_true rfl) (fun j h => absurd h (Nat.not_lt_zero j)) ?_
  refine sr [(0, vk .u64 a0), (2, vi 0)] [] ?_
  refine TriE.seqK h (fun (t : Int × Int) => match t with | (v1, v2) => St.mk [(0, vk .u64 v1), (2, vi v2)] []) ?_ ?_
  · rintro ⟨v1, v2⟩ h
    refine TriE.seqK h (fun (t : Int × Int) => match t with | (v3, v4) => St.mk [(0, vk .u64 v3), (2, vi v4)] []) ?_ ?_
    · rintro ⟨v3, v4⟩ h
      refine TriE.seqK h (fun (t : Int × Int) => match t with | (v5, v6) => St.mk [(0, vk .u64 v5), (2, vi v6)] []) ?_ ?_
      · rintro ⟨v5, v6⟩ h
        refine sj ?_
        refine rn 3 [(19, vi v6), (21, vk .u8 (IntKind.u8.wrap v5))] [] ?_
        obtain ⟨c6, h⟩ := chk_some h
        refine jv (vk .u8 (((List.getD ([0, 1, 2, 2, 3, 3, 3, 3, 4, 4, 4, 4, 4, 4, 4, 4, 5, 5, 5, 5, 5, 5, 5, 5, 5, 5, 5, 5, 5, 5, 5, 5, 6, 6, 6, 6, 6, 6, 6, 6, 6, 6, 6, 6, 6, 6, 6, 6, 6, 6, 6, 6, 6, 6, 6, 6, 6, 6, 6, 6, 6, 6, 6, 6, 7, 7, 7, 7, 7, 7, 7, 7, 7, 7, 7, 7, 7, 7, 7, 7, 7, 7, 7, 7, 7, 7, 7, 7, 7, 7, 7, 7, 7, 7, 7, 7, 7, 7, 7, 7, 7, 7, 7, 7, 7, 7, 7, 7, 7, 7, 7, 7, 7, 7, 7, 7, 7, 7, 7, 7, 7, 7, 7, 7, 7, 7, 7, 7, 8, 8, 8, 8, 8, 8, 8, 8, 8, 8, 8, 8, 8, 8, 8, 8, 8, 8, 8, 8, 8, 8, 8, 8, 8, 8, 8, 8, 8, 8, 8, 8, 8, 8, 8, 8, 8, 8, 8, 8, 8, 8, 8, 8, 8, 8, 8, 8, 8, 8, 8, 8, 8, 8, 8, 8, 8, 8, 8, 8, 8, 8, 8, 8, 8, 8, 8, 8, 8, 8, 8, 8, 8, 8, 8, 8, 8, 8, 8, 8, 8, 8, 8, 8, 8, 8, 8, 8, 8, 8, 8, 8, 8, 8, 8, 8, 8, 8, 8, 8, 8, 8, 8, 8, 8, 8, 8, 8, 8, 8, 8, 8, 8, 8, 8, 8, 8, 8, 8, 8, 8, 8, 8, 8, 8, 8, 8, 8] : Str) ((IntKind.u8.wrap v5).toNat) 0).toNat : Nat) : Int)) (cy (I0 22 (.sidx (.c (.p (.string ⟨#[0, 1, 2, 2, 3, 3, 3, 3, 4, 4, 4, 4, 4, 4, 4, 4, 5, 5, 5, 5, 5, 5, 5, 5, 5, 5, 5, 5, 5, 5, 5, 5, 6, 6, 6, 6, 6, 6, 6, 6, 6, 6, 6, 6, 6, 6, 6, 6, 6, 6, 6, 6, 6, 6, 6, 6, 6, 6, 6, 6, 6, 6, 6, 6, 7, 7, 7, 7, 7, 7, 7, 7, 7, 7, 7, 7, 7, 7, 7, 7, 7, 7, 7, 7, 7, 7, 7, 7, 7, 7, 7, 7, 7, 7, 7, 7, 7, 7, 7, 7, 7, 7, 7, 7, 7, 7, 7, 7, 7, 7, 7, 7, 7, 7, 7, 7, 7, 7, 7, 7, 7, 7, 7, 7, 7, 7, 7, 7, 8, 8, 8, 8, 8, 8, 8, 8, 8, 8, 8, 8, 8, 8, 8, 8, 8, 8, 8, 8, 8, 8, 8, 8, 8, 8, 8, 8, 8, 8, 8, 8, 8, 8, 8, 8, 8, 8, 8, 8, 8, 8, 8, 8, 8, 8, 8, 8, 8, 8, 8, 8, 8, 8, 8, 8, 8, 8, 8, 8, 8, 8, 8, 8, 8, 8, 8, 8, 8, 8, 8, 8, 8, 8, 8, 8, 8, 8, 8, 8, 8, 8, 8, 8, 8, 8, 8, 8, 8, 8, 8, 8, 8, 8, 8, 8, 8, 8, 8, 8, 8, 8, 8, 8, 8, 8, 8, 8, 8, 8, 8, 8, 8, 8, 8, 8, 8, 8, 8, 8, 8, 8, 8, 8, 8, 8, 8, 8]⟩))) (.t 21)))) (ok_sidx_t (j := (IntKind.u8.wrap v5).toNat) rfl rfl (inB_to c6) (inB_lt c6)) rfl ?_
        refine jv (vi (((List.getD ([0, 1, 2, 2, 3, 3, 3, 3, 4, 4, 4, 4, 4, 4, 4, 4, 5, 5, 5, 5, 5, 5, 5, 5, 5, 5, 5, 5, 5, 5, 5, 5, 6, 6, 6, 6, 6, 6, 6, 6, 6, 6, 6, 6, 6, 6, 6, 6, 6, 6, 6, 6, 6, 6, 6, 6, 6, 6, 6, 6, 6, 6, 6, 6, 7, 7, 7, 7, 7, 7, 7, 7, 7, 7, 7, 7, 7, 7, 7, 7, 7, 7, 7, 7, 7, 7, 7, 7, 7, 7, 7, 7, 7, 7, 7, 7, 7, 7, 7, 7, 7, 7, 7, 7, 7, 7, 7, 7, 7, 7, 7, 7, 7, 7, 7, 7, 7, 7, 7, 7, 7, 7, 7, 7, 7, 7, 7, 7, 8, 8, 8, 8, 8, 8, 8, 8, 8, 8, 8, 8, 8, 8, 8, 8, 8, 8, 8, 8, 8, 8, 8, 8, 8, 8, 8, 8, 8, 8, 8, 8, 8, 8, 8, 8, 8, 8, 8, 8, 8, 8, 8, 8, 8, 8, 8, 8, 8, 8, 8, 8, 8, 8, 8, 8, 8, 8, 8, 8, 8, 8, 8, 8, 8, 8, 8, 8, 8, 8, 8, 8, 8, 8, 8, 8, 8, 8, 8, 8, 8, 8, 8, 8, 8, 8, 8, 8, 8, 8, 8, 8, 8, 8, 8, 8, 8, 8, 8, 8, 8, 8, 8, 8, 8, 8, 8, 8, 8, 8, 8, 8, 8, 8, 8, 8, 8, 8, 8, 8, 8, 8, 8, 8, 8, 8, 8, 8] : Str) ((IntKind.u8.wrap v5).toNat) 0).toNat : Nat) : Int)) (cy (I0 23 (.conv .i64 (.t 22)))) (ok_convb (c := (List.getD ([0, 1, 2, 2, 3, 3, 3, 3, 4, 4, 4, 4, 4, 4, 4, 4, 5, 5, 5, 5, 5, 5, 5, 5, 5, 5, 5, 5, 5, 5, 5, 5, 6, 6, 6, 6, 6, 6, 6, 6, 6, 6, 6, 6, 6, 6, 6, 6, 6, 6, 6, 6, 6, 6, 6, 6, 6, 6, 6, 6, 6, 6, 6, 6, 7, 7, 7, 7, 7, 7, 7, 7, 7, 7, 7, 7, 7, 7, 7, 7, 7, 7, 7, 7, 7, 7, 7, 7, 7, 7, 7, 7, 7, 7, 7, 7, 7, 7, 7, 7, 7, 7, 7, 7, 7, 7, 7, 7, 7, 7, 7, 7, 7, 7, 7, 7, 7, 7, 7, 7, 7, 7, 7, 7, 7, 7, 7, 7, 8, 8, 8, 8, 8, 8, 8, 8, 8, 8, 8, 8, 8, 8, 8, 8, 8, 8, 8, 8, 8, 8, 8, 8, 8, 8, 8, 8, 8, 8, 8, 8, 8, 8, 8, 8, 8, 8, 8, 8, 8, 8, 8, 8, 8, 8, 8, 8, 8, 8, 8, 8, 8, 8, 8, 8, 8, 8, 8, 8, 8, 8, 8, 8, 8, 8, 8, 8, 8, 8, 8, 8, 8, 8, 8, 8, 8, 8, 8, 8, 8, 8, 8, 8, 8, 8, 8, 8, 8, 8, 8, 8, 8, 8, 8, 8, 8, 8, 8, 8, 8, 8, 8, 8, 8, 8, 8, 8, 8, 8, 8, 8, 8, 8, 8, 8, 8, 8, 8, 8, 8, 8, 8, 8, 8, 8, 8, 8] : Str) ((IntKind.u8.wrap v5).toNat) 0)) rfl) rfl ?_
        obtain ⟨c7, h⟩ := chk_some h
        refine jv (vi (v6 + (((List.getD ([0, 1, 2, 2, 3, 3, 3, 3, 4, 4, 4, 4, 4, 4, 4, 4, 5, 5, 5, 5, 5, 5, 5, 5, 5, 5, 5, 5, 5, 5, 5, 5, 6, 6, 6, 6, 6, 6, 6, 6, 6, 6, 6, 6, 6, 6, 6, 6, 6, 6, 6, 6, 6, 6, 6, 6, 6, 6, 6, 6, 6, 6, 6, 6, 7, 7, 7, 7, 7, 7, 7, 7, 7, 7, 7, 7, 7, 7, 7, 7, 7, 7, 7, 7, 7, 7, 7, 7, 7, 7, 7, 7, 7, 7, 7, 7, 7, 7, 7, 7, 7, 7, 7, 7, 7, 7, 7, 7, 7, 7, 7, 7, 7, 7, 7, 7, 7, 7, 7, 7, 7, 7, 7, 7, 7, 7, 7, 7, 8, 8, 8, 8, 8, 8, 8, 8, 8, 8, 8, 8, 8, 8, 8, 8, 8, 8, 8, 8, 8, 8, 8, 8, 8, 8, 8, 8, 8, 8, 8, 8, 8, 8, 8, 8, 8, 8, 8, 8, 8, 8, 8, 8, 8, 8, 8, 8, 8, 8, 8, 8, 8, 8, 8, 8, 8, 8, 8, 8, 8, 8, 8, 8, 8, 8, 8, 8, 8, 8, 8, 8, 8, 8, 8, 8, 8, 8, 8, 8, 8, 8, 8, 8, 8, 8, 8, 8, 8, 8, 8, 8, 8, 8, 8, 8, 8, 8, 8, 8, 8, 8, 8, 8, 8, 8, 8, 8, 8, 8, 8, 8, 8, 8, 8, 8, 8, 8, 8, 8, 8, 8, 8, 8, 8, 8, 8, 8] : Str) ((IntKind.u8.wrap v5).toNat) 0).toNat : Nat) : Int))) (cy (I0 24 (.bin .add false (.t 19) (.t 23)))) (r_add rfl rfl c7) rfl ?_
        refine jq 1 [(2, vi (v6 + (((List.getD ([0, 1, 2, 2, 3, 3, 3, 3, 4, 4, 4, 4, 4, 4, 4, 4, 5, 5, 5, 5, 5, 5, 5, 5, 5, 5, 5, 5, 5, 5, 5, 5, 6, 6, 6, 6, 6, 6, 6, 6, 6, 6, 6, 6, 6, 6, 6, 6, 6, 6, 6, 6, 6, 6, 6, 6, 6, 6, 6, 6, 6, 6, 6, 6, 7, 7, 7, 7, 7, 7, 7, 7, 7, 7, 7, 7, 7, 7, 7, 7, 7, 7, 7, 7, 7, 7, 7, 7, 7, 7, 7, 7, 7, 7, 7, 7, 7, 7, 7, 7, 7, 7, 7, 7, 7, 7, 7, 7, 7, 7, 7, 7, 7, 7, 7, 7, 7, 7, 7, 7, 7, 7, 7, 7, 7, 7, 7, 7, 8, 8, 8, 8, 8, 8, 8, 8, 8, 8, 8, 8, 8, 8, 8, 8, 8, 8, 8, 8, 8, 8, 8, 8, 8, 8, 8, 8, 8, 8, 8, 8, 8, 8, 8, 8, 8, 8, 8, 8, 8, 8, 8, 8, 8, 8, 8, 8, 8, 8, 8, 8, 8, 8, 8, 8, 8, 8, 8, 8, 8, 8, 8, 8, 8, 8, 8, 8, 8, 8, 8, 8, 8, 8, 8, 8, 8, 8, 8, 8, 8, 8, 8, 8, 8, 8, 8, 8, 8, 8, 8, 8, 8, 8, 8, 8, 8, 8, 8, 8, 8, 8, 8, 8, 8, 8, 8, 8, 8, 8, 8, 8, 8, 8, 8, 8, 8, 8, 8, 8, 8, 8, 8, 8, 8, 8, 8, 8] : Str) ((IntKind.u8.wrap v5).toNat) 0).toNat : Nat) : Int)))] [] ?_
        refine TriE.ret ?_
        have h := Option.some.inj h
        subst h
        exact DoneS.ret (S' := ⟨[(2, vi (v6 + (((List.getD ([0, 1, 2, 2, 3, 3, 3, 3, 4, 4, 4, 4, 4, 4, 4, 4, 5, 5, 5, 5, 5, 5, 5, 5, 5, 5, 5, 5, 5, 5, 5, 5, 6, 6, 6, 6, 6, 6, 6, 6, 6, 6, 6, 6, 6, 6, 6, 6, 6, 6, 6, 6, 6, 6, 6, 6, 6, 6, 6, 6, 6, 6, 6, 6, 7, 7, 7, 7, 7, 7, 7, 7, 7, 7, 7, 7, 7, 7, 7, 7, 7, 7, 7, 7, 7, 7, 7, 7, 7, 7, 7, 7, 7, 7, 7, 7, 7, 7, 7, 7, 7, 7, 7, 7, 7, 7, 7, 7, 7, 7, 7, 7, 7, 7, 7, 7, 7, 7, 7, 7, 7, 7, 7, 7, 7, 7, 7, 7, 8, 8, 8, 8, 8, 8, 8, 8, 8, 8, 8, 8, 8, 8, 8, 8, 8, 8, 8, 8, 8, 8, 8, 8, 8, 8, 8, 8, 8, 8, 8, 8, 8, 8, 8, 8, 8, 8, 8, 8, 8, 8, 8, 8, 8, 8, 8, 8, 8, 8, 8, 8, 8, 8, 8, 8, 8, 8, 8, 8, 8, 8, 8, 8, 8, 8, 8, 8, 8, 8, 8, 8, 8, 8, 8, 8, 8, 8, 8, 8, 8, 8, 8, 8, 8, 8, 8, 8, 8, 8, 8, 8, 8, 8, 8, 8, 8, 8, 8, 8, 8, 8, 8, 8, 8, 8, 8, 8, 8, 8, 8, 8, 8, 8, 8, 8, 8, 8, 8, 8, 8, 8, 8, 8, 8, 8, 8, 8] : Str) ((IntKind.u8.wrap v5).toNat) 0).toNat : Nat) : Int)))], []⟩) Sees.refl rfl rfl
      intro k3 h
      refine sr [(0, vk .u64 v3), (2, vi v4), (14, vb (decide ((256 : Int) ≤ v3)))] [] ?_
      refine TriE.cond (b := decide ((256 : Int) ≤ v3)) rfl (fun c4 => ?_) (fun c4 => ?_)
      · have h := cond_t h c4
        refine sr [(2, vi v4), (0, vk .u64 (Int.fdiv v3 (2 ^ (min 8 64))))] [] ?_
        refine TriE.regJ ?_
        refine rn 1 [(0, vk .u64 (Int.fdiv v3 (2 ^ (min 8 64)))), (17, vi v4)] [] ?_
        obtain ⟨c5, h⟩ := chk_some h
        refine jv (vi (v4 + 8)) (cy (I0 18 (.bin .add false (.t 17) (.c (.p (.int .i64 8)))))) (r_add rfl rfl c5) rfl ?_
        refine jq 1 [(0, vk .u64 (Int.fdiv v3 (2 ^ (min 8 64)))), (2, vi (v4 + 8))] [] ?_
        exact Vs.intro Sees.refl ⟨(Int.fdiv v3 (2 ^ (min 8 64)), v4 + 8), rfl, h⟩
      have h := cond_f h c4
      refine TriE.skip ?_
      exact Vs.intro sy ⟨(v3, v4), rfl, h⟩
    intro k2 h
    refine sr [(0, vk .u64 v1), (2, vi v2), (8, vb (decide ((65536 : Int) ≤ v1)))] [] ?_
    refine TriE.cond (b := decide ((65536 : Int) ≤ v1)) rfl (fun c2 => ?_) (fun c2 => ?_)
    · have h := cond_t h c2
      refine sr [(2, vi v2), (0, vk .u64 (Int.fdiv v1 (2 ^ (min 16 64))))] [] ?_
      refine TriE.regJ ?_
      refine rn 1 [(0, vk .u64 (Int.fdiv v1 (2 ^ (min 16 64)))), (11, vi v2)] [] ?_
      obtain ⟨c3, h⟩ := chk_some h
      refine jv (vi (v2 + 16)) (cy (I0 12 (.bin .add false (.t 11) (.c (.p (.int .i64 16)))))) (r_add rfl rfl c3) rfl ?_
      refine jq 1 [(0, vk .u64 (Int.fdiv v1 (2 ^ (min 16 64)))), (2, vi (v2 + 16))] [] ?_
      exact Vs.intro Sees.refl ⟨(Int.fdiv v1 (2 ^ (min 16 64)), v2 + 16), rfl, h⟩
    have h := cond_f h c2
    refine TriE.skip ?_
    exact Vs.intro sy ⟨(v1, v2), rfl, h⟩
  intro k1 h
  refine sr [(0, vk .u64 a0), (2, vi 0), (4, vb (decide ((4294967296 : Int) ≤ a0)))] [] ?_
  refine TriE.cond (b := decide ((4294967296 : Int) ≤ a0)) rfl (fun c1 => ?_) (fun c1 => ?_)
  · have h := cond_t h c1
    refine sr [(0, vk .u64 (Int.fdiv a0 (2 ^ (min 32 64))))] [] ?_
    refine tr [(0, vk .u64 (Int.fdiv a0 (2 ^ (min 32 64)))), (2, vi 32)] [] ?_
    exact Vs.intro Sees.refl ⟨(Int.fdiv a0 (2 ^ (min 32 64)), 32), rfl, h⟩
  have h := cond_f h c1
  refine TriE.skip ?_
  exact Vs.intro sy ⟨(a0, 0), rfl, h⟩
theorem math_bits_Len_ok (n : Nat) (a0 : Int) (r : Int) (h : math_bits_Len n a0 = some r) : FnL Tryz.prog 166 [vk .u64 a0] [] (vi r) [] := by
  dsimp only [math_bits_Len] at h
  refine FnL.ofS (ts := [2]) Tryz.call166 Tryz.func166 rfl rfl (Nat.le_of_ble_eq_true rfl) (Nat.le_of_ble_eq_true rfl) (fun j h => absurd h (Nat.not_lt_zero j)) ?_
  refine sr [(0, vk .u64 a0)] [] ?_
  refine TriE.seq ?_
  refine TriE.cond (b := false) rfl (fun c1 => ?_) (fun c1 => ?_)
  · cases c1
  refine TriE.skip ?_
  refine sj ?_
  refine rn 1 [(6, vk .u64 a0)] [] ?_
  obtain ⟨y1, hy1, h⟩ := bind_some h
  refine RegJ.op (Op1.call (y' := vi y1) (obx := []) (oby := []) (ob2 := []) _ _ (cy (I0 7 (.call 200 [(.t 6)]))) rfl (math_bits_Len64_ok n a0 y1 hy1) [] (by kernel_rfl) (.cons rfl (.cons rfl .nil)) (by kernel_rfl) (by kernel_rfl) ObsRen.nil (by kernel_rfl) ObsRen.nil (by kernel_rfl)) ?_
  refine jq 1 [(2, vi y1)] [] ?_
  refine TriE.ret ?_
  have h := Option.some.inj h
  subst h
  exact DoneS.ret (S' := ⟨[(2, vi y1)], []⟩) Sees.refl rfl rfl
theorem cmp_isNaN_string_ok (n : Nat) (a0 : Str) (r : Unit) (h : cmp_isNaN_string n a0 = some r) : FnL Tryz.prog 186 [vt a0] [] (vb (!(a0 == a0))) [] := by
  dsimp only [cmp_isNaN_string] at h
  refine FnL.ofS (ts := [2]) Tryz.call186 Tryz.func186 rfl rfl (Nat.le_of_ble_eq_true rfl) (Nat.le_of_ble_eq_true rfl) (fun j h => absurd h (Nat.not_lt_zero j)) ?_
  refine sr [(0, vt a0)] [] ?_
  refine sr [(2, vb (!(a0 == a0)))] [] ?_
  refine TriE.ret ?_
  have h := Option.some.inj h
  subst h
  exact DoneS.ret (S' := ⟨[(2, vb (!(a0 == a0)))], []⟩) Sees.refl rfl rfl
theorem cmp_Less_string_ok (n : Nat) (a0 : Str) (a1 : Str) (r : Unit) (h : cmp_Less_string n a0 a1 = some r) : FnL Tryz.prog 196 [vt a0, vt a1] [] (vb (((!(a0 == a0)) && (!(!(a1 == a1)))) || (bLt a0 a1))) [] := by
  dsimp only [cmp_Less_string] at h
  refine FnL.ofS (ts := [4]) Tryz.call196 Tryz.func196 rfl rfl (Nat.le_of_ble_eq_true rfl) (Nat.le_of_ble_eq_true rfl) (fun j h => absurd h (Nat.not_lt_zero j)) ?_
  refine sr [(0, vt a0), (1, vt a1)] [] ?_
  refine sj ?_
  refine rn 1 [(0, vt a0), (1, vt a1), (5, vt a0)] [] ?_
  obtain ⟨y1, hy1, h⟩ := bind_some h
  refine RegJ.op (Op1.call (y' := vb (!(a0 == a0))) (obx := []) (oby := []) (ob2 := []) _ _ (cy (I0 6 (.call 186 [(.t 5)]))) rfl (cmp_isNaN_string_ok n a0 y1 hy1) [] (by kernel_rfl) (.cons rfl (.cons rfl .nil)) (by kernel_rfl) (by kernel_rfl) ObsRen.nil (by kernel_rfl) ObsRen.nil (by kernel_rfl)) ?_
  refine rn 1 [(0, vt a0), (1, vt a1), (7, vb (!(a0 == a0)))] [] ?_
  refine RegJ.op (Op1.valk (v := vt a1) _ _ (cy (IG 8 (.mov (.t 1)) 7 true)) rfl (by kernel_rfl) (fun hg => (.cons rfl .nil))) ?_
  obtain ⟨y2, hy2, h⟩ := bind_some h
  refine RegJ.op (Op1.callg (g := !(a0 == a0)) (y' := vb (!(a1 == a1))) (obx := []) _ _ (cy (IG 9 (.call 186 [(.t 8)]) 7 true)) rfl (fun hg => cmp_isNaN_string_ok n a1 y2 (gcall_some hy2 hg)) [] (fun hg => by kernel_rfl) (fun hg => (.cons rfl (.cons hg .nil))) (by kernel_rfl) (by kernel_rfl) ObsRen.nil (by kernel_rfl) (by kernel_rfl)) ?_
  refine RegJ.op (Op1.valk (v := vb (!(!(a1 == a1)))) _ _ (cy (IG 10 (.un .not (.t 9)) 7 true)) rfl (by kernel_rfl) (fun hg => (.cons hg .nil))) ?_
  refine RegJ.op (Op1.and (cy (I0 11 (.pick (.t 7) (.t 10) (.c (.p (.bool false)))))) rfl rfl (by first | exact hokA1 | exact hokA0 | simp)) ?_
  refine rn 1 [(0, vt a0), (1, vt a1), (12, vb ((!(a0 == a0)) && (!(!(a1 == a1)))))] [] ?_
  refine RegJ.op (Op1.valk (v := vt a0) _ _ (cy (IG 13 (.mov (.t 0)) 12 false)) rfl (by kernel_rfl) (fun hg => (.cons rfl .nil))) ?_
  refine RegJ.op (Op1.valk (v := vt a1) _ _ (cy (IG 14 (.mov (.t 1)) 12 false)) rfl (by kernel_rfl) (fun hg => (.cons rfl .nil))) ?_
  refine RegJ.op (Op1.valk (v := vb (bLt a0 a1)) _ _ (cy (IG 15 (.bin .lss false (.t 13) (.t 14)) 12 false)) rfl (by kernel_rfl) (fun hg => (.cons hg (.cons hg .nil)))) ?_
  refine RegJ.op (Op1.or (cy (I0 16 (.pick (.t 12) (.c (.p (.bool true))) (.t 15)))) rfl rfl (by first | exact hokO1 | exact hokO0 | simp)) ?_
  refine jq 1 [(4, vb (((!(a0 == a0)) && (!(!(a1 == a1)))) || (bLt a0 a1)))] [] ?_
  refine TriE.ret ?_
  have h := Option.some.inj h
  subst h
  exact DoneS.ret (S' := ⟨[(4, vb (((!(a0 == a0)) && (!(!(a1 == a1)))) || (bLt a0 a1)))], []⟩) Sees.refl rfl rfl
theorem slices_insertionSortOrdered_string_ok (n : Nat) (a0 : List Str) (a1 : Int) (a2 : Int) (r : (List Str)) (h : slices_insertionSortOrdered_string n a0 a1 a2 = some r) : FnL Tryz.prog 190 [.own 0 0 a0.length, vi a1, vi a2] [some (.row 1 (List.map vt a0))] (.tup []) [some (.row 1 (List.map vt r))] := by
  dsimp only [slices_insertionSortOrdered_string] at h
  refine FnL.ofS (ts := []) Tryz.call190 Tryz.func190 rfl rfl (Nat.le_of_ble_eq_true rfl) (Nat.le_of_ble_eq_true rfl) (hall_of (.cons rfl .nil)) ?_
  refine sj ?_
  refine rn 1 [(0, .own 0 0 a0.length), (1, vi a1), (2, vi a2), (8, vi a1)] [some (.row 1 (List.map vt a0))] ?_
  obtain ⟨c1, h⟩ := chk_some h
  refine jv (vi (a1 + 1)) (cy (I0 9 (.bin .add false (.t 8) (.c (.p (.int .i64 1)))))) (r_add rfl rfl c1) rfl ?_
  refine jq 1 [(0, .own 0 0 a0.length), (1, vi a1), (2, vi a2), (6, vi (a1 + 1))] [some (.row 1 (List.map vt a0))] ?_
  refine TriE.block ?_
  refine TriE.loopN h (fun (t : Int × (List Str)) => match t with | (v6, v7) => St.mk [(0, .own 0 0 v7.length), (1, vi a1), (2, vi a2), (6, vi v6)] [some (.row 1 (List.map vt v7))]) rfl ?_
  clear h
  rintro back ⟨v6, v7⟩ h
  dsimp only [slices_insertionSortOrdered_string_L2] at h
  refine TriE.seq ?_
  refine sr [(0, .own 0 0 v7.length), (1, vi a1), (2, vi a2), (6, vi v6), (12, vb (decide (v6 < a2)))] [some (.row 1 (List.map vt v7))] ?_
  refine TriE.cond (b := decide (v6 < a2)) rfl (fun c2 => ?_) (fun c2 => ?_)
  · have h := cond_t h c2
    refine TriE.skip ?_
    refine TriE.seqK h (fun (v12 : (List Str)) => St.mk [(0, .own 0 0 v12.length), (1, vi a1), (2, vi a2), (6, vi v6)] [some (.row 1 (List.map vt v12))]) ?_ ?_
    · rintro v12 h
      refine TriE.regJ ?_
      refine rn 1 [(0, .own 0 0 v12.length), (1, vi a1), (2, vi a2), (13, vi v6)] [some (.row 1 (List.map vt v12))] ?_
      obtain ⟨c15, h⟩ := chk_some h
      refine jv (vi (v6 + 1)) (cy (I0 14 (.bin .add false (.t 13) (.c (.p (.int .i64 1)))))) (r_add rfl rfl c15) rfl ?_
      refine jq 1 [(0, .own 0 0 v12.length), (1, vi a1), (2, vi a2), (6, vi (v6 + 1))] [some (.row 1 (List.map vt v12))] ?_
      exact Vs.intro Sees.refl ⟨(v6 + 1, v12), rfl, h⟩
    intro k1 h
    refine TriE.block ?_
    refine sr [(0, .own 0 0 v7.length), (1, vi a1), (2, vi a2), (6, vi v6), (7, vi v6)] [some (.row 1 (List.map vt v7))] ?_
    refine TriE.block ?_
    refine TriE.loopN h (fun (t : Int × (List Str)) => match t with | (v9, v10) => St.mk [(0, .own 0 0 v10.length), (1, vi a1), (2, vi a2), (6, vi v6), (7, vi v9)] [some (.row 1 (List.map vt v10))]) rfl ?_
    clear h
    rintro back ⟨v9, v10⟩ h
    dsimp only [slices_insertionSortOrdered_string_L1] at h
    refine TriE.seq ?_
    refine TriE.seq ?_
    refine TriE.sees (Sees.less (fr' := [(0, .own 0 0 v10.length), (1, vi a1), (2, vi a2), (6, vi v6), (7, vi v9)]) (.cons rfl (.cons rfl (.cons rfl (.cons rfl (.cons rfl .nil)))))) ?_
    refine TriE.draw (by kernel_rfl) ?_
    refine RegD.run 4 [(19, vb (decide (a1 < v9))), (18, vb (decide (a1 < v9))), (17, vi a1), (16, vi v9), (0, .own 0 0 v10.length), (1, vi a1), (2, vi a2), (6, vi v6), (7, vi v9)] [some (.row 1 (List.map vt v10)), none, none, none, none] (by kernel_rfl) ?_
    refine RegD.op (OpD.valk (g := decide (a1 < v9)) (v := .own 0 0 v10.length) _ _ (cy (IG 20 (.mov (.t 0)) 19 true)) rfl (by kernel_rfl) (fun hg => (.cons rfl .nil))) ?_
    refine RegD.op (OpD.valk (g := decide (a1 < v9)) (v := vi v9) _ _ (cy (IG 21 (.mov (.t 7)) 19 true)) rfl (by kernel_rfl) (fun hg => (.cons rfl .nil))) ?_
    obtain ⟨c3, h⟩ := chk_some h
    refine RegD.op (OpD.valg (g := decide (a1 < v9)) (v := .ptr 0 v9.toNat 0) _ _ (cy (IG 22 (.iaddr 1 (.t 20) (.t 21)) 19 true)) rfl (fun hg => (ok_iaddr_o0 (j := v9.toNat) rfl rfl rfl (inB_to (gor c3 hg)) (inB_lt (gor c3 hg)))) (fun hg => (.cons hg (.cons hg .nil)))) ?_
    obtain ⟨c4, h⟩ := chk_some h
    refine RegD.op (OpD.valg (g := decide (a1 < v9)) (v := vt (ix v10 v9.toNat)) _ _ (cy (IG 23 (.load false 1 (.t 22)) 19 true)) rfl (fun hg => (ok_load_pm (l := v10) (e := vt) (v := vt (ix v10 v9.toNat)) rfl rfl (gor c4 hg) rfl)) (fun hg => (.cons hg .nil))) ?_
    refine RegD.op (OpD.valk (g := decide (a1 < v9)) (v := .own 0 0 v10.length) _ _ (cy (IG 24 (.mov (.t 0)) 19 true)) rfl (by kernel_rfl) (fun hg => (.cons rfl .nil))) ?_
    refine RegD.op (OpD.valk (g := decide (a1 < v9)) (v := vi v9) _ _ (cy (IG 25 (.mov (.t 7)) 19 true)) rfl (by kernel_rfl) (fun hg => (.cons rfl .nil))) ?_
    obtain ⟨c5, h⟩ := chk_some h
    refine RegD.op (OpD.valg (g := decide (a1 < v9)) (v := vi (v9 - 1)) _ _ (cy (IG 26 (.bin .sub false (.t 25) (.c (.p (.int .i64 1)))) 19 true)) rfl (fun hg => (r_sub rfl rfl (gor c5 hg))) (fun hg => (.cons hg (.cons rfl .nil)))) ?_
    obtain ⟨c6, h⟩ := chk_some h
    refine RegD.op (OpD.valg (g := decide (a1 < v9)) (v := .ptr 0 ((v9 - 1).toNat) 0) _ _ (cy (IG 27 (.iaddr 1 (.t 24) (.t 26)) 19 true)) rfl (fun hg => (ok_iaddr_o0 (j := (v9 - 1).toNat) rfl rfl rfl (inB_to (gor c6 hg)) (inB_lt (gor c6 hg)))) (fun hg => (.cons hg (.cons hg .nil)))) ?_
    obtain ⟨c7, h⟩ := chk_some h
    refine RegD.op (OpD.valg (g := decide (a1 < v9)) (v := vt (ix v10 ((v9 - 1).toNat))) _ _ (cy (IG 28 (.load false 1 (.t 27)) 19 true)) rfl (fun hg => (ok_load_pm (l := v10) (e := vt) (v := vt (ix v10 ((v9 - 1).toNat))) rfl rfl (gor c7 hg) rfl)) (fun hg => (.cons hg .nil))) ?_
    obtain ⟨y11, hy11, h⟩ := bind_some h
    refine RegD.op (OpD.callg (g := decide (a1 < v9)) (y' := vb (((!((ix v10 v9.toNat) == (ix v10 v9.toNat))) && (!(!((ix v10 ((v9 - 1).toNat)) == (ix v10 ((v9 - 1).toNat)))))) || (bLt (ix v10 v9.toNat) (ix v10 ((v9 - 1).toNat))))) (obx := []) _ _ (cy (IG 29 (.call 196 [(.t 23), (.t 28)]) 19 true)) rfl (fun hg => cmp_Less_string_ok n (ix v10 v9.toNat) (ix v10 ((v9 - 1).toNat)) y11 (gcall_some hy11 hg)) [] (fun hg => by kernel_rfl) (fun hg => (.cons rfl (.cons hg (.cons hg .nil)))) (by kernel_rfl) (by kernel_rfl) ObsRen.nil (by kernel_rfl) (by kernel_rfl) rfl) ?_
    refine RegD.op (OpD.and (cy (I0 30 (.pick (.t 19) (.t 29) (.c (.p (.bool false)))))) rfl rfl (by first | exact hokA1 | exact hokA0 | simp)) ?_
    refine RegD.done rfl (by kernel_rfl) (S' := ⟨[(0, .own 0 0 v10.length), (1, vi a1), (2, vi a2), (6, vi v6), (7, vi v9), (30, vb ((decide (a1 < v9)) && (((!((ix v10 v9.toNat) == (ix v10 v9.toNat))) && (!(!((ix v10 ((v9 - 1).toNat)) == (ix v10 ((v9 - 1).toNat)))))) || (bLt (ix v10 v9.toNat) (ix v10 ((v9 - 1).toNat))))))], [some (.row 1 (List.map vt v10))]⟩) (sc [0] (by decide) (by kernel_rfl) (obRen_row vt_frz rfl .nil) rfl rfl) ?_
    refine TriE.cond (b := (decide (a1 < v9)) && (((!((ix v10 v9.toNat) == (ix v10 v9.toNat))) && (!(!((ix v10 ((v9 - 1).toNat)) == (ix v10 ((v9 - 1).toNat)))))) || (bLt (ix v10 v9.toNat) (ix v10 ((v9 - 1).toNat))))) rfl (fun c8 => ?_) (fun c8 => ?_)
    · have h := cond_t h c8
      refine TriE.skip ?_
      refine TriE.seq ?_
      refine TriE.block ?_
      refine TriE.sees (Sees.less (fr' := [(0, .own 0 0 v10.length), (1, vi a1), (2, vi a2), (6, vi v6), (7, vi v9)]) (.cons rfl (.cons rfl (.cons rfl (.cons rfl (.cons rfl .nil)))))) ?_
      refine TriE.draw (by kernel_rfl) ?_
      refine RegD.run 4 [(36, vi v9), (35, .own 0 0 v10.length), (34, vi v9), (33, .own 0 0 v10.length), (0, .own 0 0 v10.length), (1, vi a1), (2, vi a2), (6, vi v6), (7, vi v9)] [some (.row 1 (List.map vt v10)), none, none, none, none] (by kernel_rfl) ?_
      obtain ⟨c9, h⟩ := chk_some h
      refine dv (vi (v9 - 1)) (cy (I0 37 (.bin .sub false (.t 36) (.c (.p (.int .i64 1)))))) (r_sub rfl rfl c9) rfl ?_
      refine RegD.run 2 [(39, vi v9), (38, .own 0 0 v10.length), (37, vi (v9 - 1)), (36, vi v9), (35, .own 0 0 v10.length), (34, vi v9), (33, .own 0 0 v10.length), (0, .own 0 0 v10.length), (1, vi a1), (2, vi a2), (6, vi v6), (7, vi v9)] [some (.row 1 (List.map vt v10)), none, none, none, none, none, none, none] (by kernel_rfl) ?_
      refine dv (vi (v9 - 1)) (cy (I0 40 (.bin .sub false (.t 39) (.c (.p (.int .i64 1)))))) (r_sub rfl rfl c9) rfl ?_
      obtain ⟨c10, h⟩ := chk_some h
      refine dv (.ptr 0 ((v9 - 1).toNat) 0) (cy (I0 41 (.iaddr 1 (.t 38) (.t 40)))) (ok_iaddr_o0 (j := (v9 - 1).toNat) rfl rfl rfl (inB_to c10) (inB_lt c10)) rfl ?_
      obtain ⟨c11, h⟩ := chk_some h
      refine dv (vt (ix v10 ((v9 - 1).toNat))) (cy (I0 42 (.load false 1 (.t 41)))) (ok_load_pm (l := v10) (e := vt) (v := vt (ix v10 ((v9 - 1).toNat))) rfl rfl c11 rfl) rfl ?_
      refine RegD.run 2 [(44, vi v9), (43, .own 0 0 v10.length), (42, vt (ix v10 ((v9 - 1).toNat))), (41, .ptr 0 ((v9 - 1).toNat) 0), (40, vi (v9 - 1)), (39, vi v9), (38, .own 0 0 v10.length), (37, vi (v9 - 1)), (36, vi v9), (35, .own 0 0 v10.length), (34, vi v9), (33, .own 0 0 v10.length), (0, .own 0 0 v10.length), (1, vi a1), (2, vi a2), (6, vi v6), (7, vi v9)] [some (.row 1 (List.map vt v10)), none, none, none, none, none, none, none, none, none, none, none, none] (by kernel_rfl) ?_
      obtain ⟨c12, h⟩ := chk_some h
      refine dv (.ptr 0 v9.toNat 0) (cy (I0 45 (.iaddr 1 (.t 43) (.t 44)))) (ok_iaddr_o0 (j := v9.toNat) rfl rfl rfl (inB_to c12) (inB_lt c12)) rfl ?_
      obtain ⟨c13, h⟩ := chk_some h
      refine dv (vt (ix v10 v9.toNat)) (cy (I0 46 (.load false 1 (.t 45)))) (ok_load_pm (l := v10) (e := vt) (v := vt (ix v10 v9.toNat)) rfl rfl c13 rfl) rfl ?_
      refine dv (.ptr 0 v9.toNat 0) (cy (I0 47 (.iaddr 1 (.t 33) (.t 34)))) (ok_iaddr_o0 (j := v9.toNat) rfl rfl rfl (inB_to c12) (inB_lt c12)) rfl ?_
      refine de (.undef) [some (.row 1 (List.map vt (List.set v10 v9.toNat (ix v10 ((v9 - 1).toNat))))), none, none, none, none, none, none, none, none, none, none, none, none, none, none, none, none] (cy (IN (.store 1 (.t 47) (.t 42)))) (ok_store_m (l := v10) (e := vt) (x' := (ix v10 ((v9 - 1).toNat))) (u := vt (ix v10 ((v9 - 1).toNat))) rfl rfl rfl c13 rfl rfl) rfl rfl rfl ?_
      refine dv (.ptr 0 ((v9 - 1).toNat) 0) (cy (I0 48 (.iaddr 1 (.t 35) (.t 37)))) (ok_iaddr_o0 (j := (v9 - 1).toNat) rfl rfl rfl (inB_to c10) (inB_lt c10)) rfl ?_
      obtain ⟨c14, h⟩ := chk_some h
      refine de (.undef) [some (.row 1 (List.map vt (List.set (List.set v10 v9.toNat (ix v10 ((v9 - 1).toNat))) ((v9 - 1).toNat) (ix v10 v9.toNat)))), none, none, none, none, none, none, none, none, none, none, none, none, none, none, none, none, none, none] (cy (IN (.store 1 (.t 48) (.t 46)))) (ok_store_m (l := (List.set v10 v9.toNat (ix v10 ((v9 - 1).toNat)))) (e := vt) (x' := (ix v10 v9.toNat)) (u := vt (ix v10 v9.toNat)) rfl rfl rfl c14 rfl rfl) rfl rfl rfl ?_
      refine RegD.done rfl (by kernel_rfl) (S' := ⟨[(0, .own 0 0 v10.length), (1, vi a1), (2, vi a2), (6, vi v6), (7, vi v9)], [some (.row 1 (List.map vt (List.set (List.set v10 v9.toNat (ix v10 ((v9 - 1).toNat))) ((v9 - 1).toNat) (ix v10 v9.toNat))))]⟩) (sc [0] (by decide) (by kernel_rfl) (obRen_row vt_frz rfl .nil) rfl rfl) ?_
      refine TriE.regJ ?_
      refine rn 1 [(0, .own 0 0 v10.length), (1, vi a1), (2, vi a2), (6, vi v6), (31, vi v9)] [some (.row 1 (List.map vt (List.set (List.set v10 v9.toNat (ix v10 ((v9 - 1).toNat))) ((v9 - 1).toNat) (ix v10 v9.toNat))))] ?_
      refine jv (vi (v9 - 1)) (cy (I0 32 (.bin .sub false (.t 31) (.c (.p (.int .i64 1)))))) (r_sub rfl rfl c9) rfl ?_
      refine jq 1 [(0, .own 0 0 v10.length), (1, vi a1), (2, vi a2), (6, vi v6), (7, vi (v9 - 1))] [some (.row 1 (List.map vt (List.set (List.set v10 v9.toNat (ix v10 ((v9 - 1).toNat))) ((v9 - 1).toNat) (ix v10 v9.toNat))))] ?_
      exact Vs.intro (Sees.less (.cons (by simp only [List.length_set]; rfl) (.cons rfl (.cons rfl (.cons rfl (.cons rfl .nil)))))) ⟨(v9 - 1, (List.set (List.set v10 v9.toNat (ix v10 ((v9 - 1).toNat))) ((v9 - 1).toNat) (ix v10 v9.toNat))), rfl, h⟩
    have h := cond_f h c8
    refine TriE.exit ?_
    exact Vs.intro sy ⟨v10, rfl, h⟩
  have h := cond_f h c2
  refine TriE.exit ?_
  have h := Option.some.inj h
  subst h
  exact DoneS.normal (S' := ⟨[], [some (.row 1 (List.map vt v7))]⟩) sy rfl rfl
theorem slices_pdqsortOrdered_string_ok (n : Nat) (a0 : List Str) (a1 : Int) (a2 : Int) (a3 : Int) (r : (List Str)) (h : slices_pdqsortOrdered_string n a0 a1 a2 a3 = some r) : FnL Tryz.prog 165 [.own 0 0 a0.length, vi a1, vi a2, vi a3] [some (.row 1 (List.map vt a0))] (.tup []) [some (.row 1 (List.map vt r))] := by
  dsimp only [slices_pdqsortOrdered_string] at h
  refine FnL.ofS (ts := []) Tryz.call165 Tryz.func165 rfl rfl (Nat.le_of_ble_eq_true rfl) (Nat.le_of_ble_eq_true rfl) (hall_of (.cons rfl .nil)) ?_
  refine sr [(0, .own 0 0 a0.length), (1, vi a1), (2, vi a2), (3, vi a3), (8, vb true)] [some (.row 1 (List.map vt a0))] ?_
  refine sr [(0, .own 0 0 a0.length), (1, vi a1), (2, vi a2), (3, vi a3), (8, vb true), (9, vb true)] [some (.row 1 (List.map vt a0))] ?_
  refine TriE.block ?_
  refine TriE.loopN h (fun (_ : Unit) => St.mk [(0, .own 0 0 a0.length), (1, vi a1), (2, vi a2), (3, vi a3), (8, vb true), (9, vb true)] [some (.row 1 (List.map vt a0))]) rfl ?_
  clear h
  rintro back ⟨⟩ h
  dsimp only [slices_pdqsortOrdered_string_L1] at h
  refine TriE.block ?_
  refine sj ?_
  refine rn 2 [(0, .own 0 0 a0.length), (1, vi a1), (2, vi a2), (3, vi a3), (8, vb true), (9, vb true), (19, vi a2), (20, vi a1)] [some (.row 1 (List.map vt a0))] ?_
  obtain ⟨c1, h⟩ := chk_some h
  refine jv (vi (a2 - a1)) (cy (I0 21 (.bin .sub false (.t 19) (.t 20)))) (r_sub rfl rfl c1) rfl ?_
  refine jq 1 [(0, .own 0 0 a0.length), (1, vi a1), (2, vi a2), (3, vi a3), (8, vb true), (9, vb true), (10, vi (a2 - a1))] [some (.row 1 (List.map vt a0))] ?_
  refine TriE.seq ?_
  refine sr [(0, .own 0 0 a0.length), (1, vi a1), (2, vi a2), (3, vi a3), (8, vb true), (9, vb true), (10, vi (a2 - a1)), (23, vb (decide ((a2 - a1) ≤ (12 : Int))))] [some (.row 1 (List.map vt a0))] ?_
  refine TriE.cond (b := decide ((a2 - a1) ≤ (12 : Int))) rfl (fun c2 => ?_) (fun c2 => ?_)
  · have h := cond_t h c2
    refine sj ?_
    refine rn 3 [(24, .own 0 0 a0.length), (25, vi a1), (26, vi a2)] [some (.row 1 (List.map vt a0))] ?_
    obtain ⟨y1, hy1, h⟩ := bind_some h
    refine RegJ.op (Op1.call (y' := .tup []) (obx := [some (.row 1 (List.map vt a0))]) (oby := [some (.row 1 (List.map vt y1))]) (ob2 := [some (.row 1 (List.map vt y1))]) _ _ (cy (I0 27 (.call 190 [(.t 24), (.t 25), (.t 26)]))) rfl (slices_insertionSortOrdered_string_ok n a0 a1 a2 y1 hy1) [0] (by kernel_rfl) (.cons rfl (.cons rfl (.cons rfl (.cons rfl .nil)))) (by kernel_rfl) (by kernel_rfl) (.same (row_ren vt_frz _ _ _) .nil) (by kernel_rfl) (.same (row_ren vt_frz _ _ _) .nil) (by kernel_rfl)) ?_
    obtain ⟨c3, h⟩ := chk_some h
    refine RegJ.sees (S' := ⟨[(24, .own 0 0 y1.length), (25, vi a1), (26, vi a2), (27, .tup [])], [some (.row 1 (List.map vt y1))]⟩) (Sees.cov (Cov.mk2 (rs := [0]) (by decide) rfl rfl (.cons (.inl (by rw [show a0.length = y1.length from of_decide_eq_true c3]; rfl)) (.cons (.inl rfl) (.cons (.inl rfl) (.cons (.inl rfl) .nil)))) (obRen_row vt_frz rfl .nil))) ?_
    refine jp [] ?_
    refine TriE.ret ?_
    have h := Option.some.inj h
    subst h
    exact DoneS.ret (S' := ⟨[], [some (.row 1 (List.map vt y1))]⟩) Sees.refl rfl rfl
  have h := cond_f h c2
  refine TriE.skip ?_
  refine TriE.seq ?_
  refine sr [(0, .own 0 0 a0.length), (1, vi a1), (2, vi a2), (3, vi a3), (8, vb true), (9, vb true), (10, vi (a2 - a1)), (29, vb (a3 == (0 : Int)))] [some (.row 1 (List.map vt a0))] ?_
  refine TriE.cond (b := (a3 == (0 : Int))) rfl (fun c4 => ?_) (fun c4 => ?_)
  · have h := cond_t h c4
    refine sj ?_
    refine rn 3 [(30, .own 0 0 a0.length), (31, vi a1), (32, vi a2)] [some (.row 1 (List.map vt a0))] ?_
    cases h
  have h := cond_f h c4
  refine TriE.skip ?_
  refine TriE.seq ?_
  refine sr [(0, .own 0 0 a0.length), (1, vi a1), (2, vi a2), (3, vi a3), (8, vb true), (9, vb true), (10, vi (a2 - a1)), (35, vb false)] [some (.row 1 (List.map vt a0))] ?_
  refine TriE.cond (b := false) rfl (fun c5 => ?_) (fun c5 => ?_)
  · cases c5
  refine TriE.skip ?_
  refine sj ?_
  refine rn 3 [(0, .own 0 0 a0.length), (1, vi a1), (2, vi a2), (3, vi a3), (8, vb true), (9, vb true), (10, vi (a2 - a1)), (43, .own 0 0 a0.length), (44, vi a1), (45, vi a2)] [some (.row 1 (List.map vt a0))] ?_
  cases h
theorem slices_Sort_string_ok (n : Nat) (a0 : List Str) (r : (List Str)) (h : slices_Sort_string n a0 = some r) : FnL Tryz.prog 103 [.own 0 0 a0.length] [some (.row 1 (List.map vt a0))] (.tup []) [some (.row 1 (List.map vt r))] := by
  dsimp only [slices_Sort_string] at h
  refine FnL.ofS (ts := []) Tryz.call103 Tryz.func103 rfl rfl (Nat.le_of_ble_eq_true rfl) (Nat.le_of_ble_eq_true rfl) (hall_of (.cons rfl .nil)) ?_
  refine sr [(0, .own 0 0 a0.length), (2, vi (a0.length : Int))] [some (.row 1 (List.map vt a0))] ?_
  refine TriE.regJ ?_
  refine rn 4 [(5, .own 0 0 a0.length), (6, vi (a0.length : Int)), (8, vk .u64 (IntKind.u64.wrap (a0.length : Int)))] [some (.row 1 (List.map vt a0))] ?_
  obtain ⟨y1, hy1, h⟩ := bind_some h
  refine RegJ.op (Op1.call (y' := vi y1) (obx := []) (oby := []) (ob2 := [some (.row 1 (List.map vt a0))]) _ _ (cy (I0 9 (.call 166 [(.t 8)]))) rfl (math_bits_Len_ok n (IntKind.u64.wrap (a0.length : Int)) y1 hy1) [] (by kernel_rfl) (.cons rfl (.cons rfl .nil)) (by kernel_rfl) (by kernel_rfl) ObsRen.nil (by kernel_rfl) ObsRen.nil (by kernel_rfl)) ?_
  obtain ⟨y2, hy2, h⟩ := bind_some h
  refine RegJ.op (Op1.call (y' := .tup []) (obx := [some (.row 1 (List.map vt a0))]) (oby := [some (.row 1 (List.map vt y2))]) (ob2 := [some (.row 1 (List.map vt y2))]) _ _ (cy (I0 10 (.call 165 [(.t 5), (.c (.p (.int .i64 0))), (.t 6), (.t 9)]))) rfl (slices_pdqsortOrdered_string_ok n a0 0 (a0.length : Int) y1 y2 hy2) [0] (by kernel_rfl) (.cons rfl (.cons rfl (.cons rfl (.cons rfl (.cons rfl .nil))))) (by kernel_rfl) (by kernel_rfl) (.same (row_ren vt_frz _ _ _) .nil) (by kernel_rfl) (.same (row_ren vt_frz _ _ _) .nil) (by kernel_rfl)) ?_
  obtain ⟨c1, h⟩ := chk_some h
  refine RegJ.sees (S' := ⟨[(5, .own 0 0 y2.length), (6, vi (a0.length : Int)), (8, vk .u64 (IntKind.u64.wrap (a0.length : Int))), (9, vi y1), (10, .tup [])], [some (.row 1 (List.map vt y2))]⟩) (Sees.cov (Cov.mk2 (rs := [0]) (by decide) rfl rfl (.cons (.inl (by rw [show a0.length = y2.length from of_decide_eq_true c1]; rfl)) (.cons (.inl rfl) (.cons (.inl rfl) (.cons (.inl rfl) (.cons (.inl rfl) .nil))))) (obRen_row vt_frz rfl .nil))) ?_
  refine jp [] ?_
  have h := Option.some.inj h
  subst h
  exact DoneS.normal (S' := ⟨[], [some (.row 1 (List.map vt y2))]⟩) Sees.refl rfl rfl
theorem restore_ByFirst_ok (n : Nat) (a0 : List Task) (a1 : List Str) (r : Int × (List Str)) (h : restore_ByFirst n a0 a1 = some r) : FnL Tryz.prog 53 [eS 6 eTask a0, eS 1 vt a1] [] (.tup [eS 1 vt r.2, vi r.1]) [] := by
  dsimp only [restore_ByFirst] at h
  refine FnL.ofS (ts := [4, 5]) Tryz.call53 Tryz.func53 rfl rfl (Nat.le_of_ble_eq_true rfl) (Nat.le_of_ble_eq_true rfl) (fun j h => absurd h (Nat.not_lt_zero j)) ?_
  refine sr [(1, eS 1 vt a1), (2, .ptr 0 0 0)] [some (.row 1 [eS 6 eTask a0])] ?_
  refine TriE.seq ?_
  refine sj ?_
  refine rn 3 [(1, eS 1 vt a1), (2, .ptr 0 0 0), (13, eS 6 eTask a0), (15, .own 1 0 1)] [some (.row 1 [eS 6 eTask a0]), some (.row 1 [eS 1 vt a1])] ?_
  refine RegJ.sees (Sees.freeze 1 (fr' := [(1, eS 1 vt a1), (2, .ptr 0 0 0), (13, eS 6 eTask a0), (15, eS 1 (eS 1 vt) ([a1] : List (List Str)))]) (ob' := [some (.row 1 [eS 6 eTask a0]), none]) rfl (frzs_cons rfl frzs_nil) (.cons (.refl _) (.cons (.refl _) (.cons (.refl _) (.cons (.own rfl (Nat.le_of_ble_eq_true rfl)) .nil)))) rfl) ?_
  obtain ⟨y1, hy1, h⟩ := bind_some h
  refine RegJ.op (Op1.call (y' := vi y1) (obx := []) (oby := []) (ob2 := [some (.row 1 [eS 6 eTask a0]), none]) _ _ (cy (I0 16 (.call 113 [(.t 13), (.t 15)]))) rfl (restore_checkSets_ok n a0 ([a1] : List (List Str)) y1 hy1) [] (by kernel_rfl) (.cons rfl (.cons rfl (.cons rfl .nil))) (by kernel_rfl) (by kernel_rfl) ObsRen.nil (by kernel_rfl) ObsRen.nil (by kernel_rfl)) ?_
  refine jq 1 [(1, eS 1 vt a1), (2, .ptr 0 0 0), (6, vi y1)] [some (.row 1 [eS 6 eTask a0]), none] ?_
  refine sr [(1, eS 1 vt a1), (2, .ptr 0 0 0), (6, vi y1), (18, vb (y1 != (0 : Int)))] [some (.row 1 [eS 6 eTask a0]), none] ?_
  refine TriE.cond (b := (y1 != (0 : Int))) rfl (fun c1 => ?_) (fun c1 => ?_)
  · have h := cond_t h c1
    refine sr [(4, .emp), (5, vi y1)] [some (.row 1 [eS 6 eTask a0]), none] ?_
    refine TriE.ret ?_
    have h := Option.some.inj h
    subst h
    exact DoneS.ret (S' := ⟨[(4, eS 1 vt ([] : List Str)), (5, vi y1)], []⟩) (Sees.trans (Sees.vco (fr' := [(4, eS 1 vt ([] : List Str)), (5, vi y1)]) (.cons .sl (.cons .same .nil))) (sc [] (by decide) (by kernel_rfl) ObRen.nil rfl rfl)) rfl rfl
  have h := cond_f h c1
  refine TriE.skip ?_
  refine sj ?_
  refine je (.map 2) [some (.row 1 [eS 6 eTask a0]), none, some (.mp (mpE vt vb ([] : List (Str × Bool))))] (cy (I0 20 .mkmap)) rfl rfl rfl rfl ?_
  refine jq 2 [(1, eS 1 vt a1), (2, .ptr 0 0 0), (7, .ptr 3 0 0)] [some (.row 1 [eS 6 eTask a0]), none, some (.mp (mpE vt vb ([] : List (Str × Bool)))), some (.row 1 [.map 2])] ?_
  refine sr [(1, eS 1 vt a1), (2, .ptr 0 0 0), (7, .ptr 3 0 0), (8, .ptr 4 0 0)] [some (.row 1 [eS 6 eTask a0]), none, some (.mp (mpE vt vb ([] : List (Str × Bool)))), some (.row 1 [.map 2]), some (.row 1 [.p .nilFunc])] ?_
  refine sr [(1, eS 1 vt a1), (7, .ptr 3 0 0), (8, .ptr 4 0 0)] [some (.row 1 [eS 6 eTask a0]), none, some (.mp (mpE vt vb ([] : List (Str × Bool)))), some (.row 1 [.map 2]), some (.row 1 [.fn (.func 120) [] [.ptr 3 0 0, .ptr 0 0 0, .ptr 4 0 0]])] ?_
  refine TriE.seqK h (fun (v6 : (List (Str × Bool))) => St.mk [(7, .ptr 1 0 0)] [some (.mp (mpE vt vb v6)), some (.row 1 [.map 0])]) ?_ ?_
  · rintro v6 h
    refine sr [(7, .ptr 1 0 0), (11, .emp)] [some (.mp (mpE vt vb v6)), some (.row 1 [.map 0])] ?_
    refine TriE.seqK h (fun (v14 : (List Str)) => St.mk [(11, .own 0 0 v14.length)] [some (.row 1 (List.map vt v14))]) ?_ ?_
    · rintro v14 h
      refine sj ?_
      refine rn 1 [(11, .own 0 0 v14.length), (42, .own 0 0 v14.length)] [some (.row 1 (List.map vt v14))] ?_
      obtain ⟨y15, hy15, h⟩ := bind_some h
      refine RegJ.op (Op1.call (y' := .tup []) (obx := [some (.row 1 (List.map vt v14))]) (oby := [some (.row 1 (List.map vt y15))]) (ob2 := [some (.row 1 (List.map vt y15))]) _ _ (cy (I0 43 (.call 103 [(.t 42)]))) rfl (slices_Sort_string_ok n v14 y15 hy15) [0] (by kernel_rfl) (.cons rfl (.cons rfl .nil)) (by kernel_rfl) (by kernel_rfl) (.same (row_ren vt_frz _ _ _) .nil) (by kernel_rfl) (.same (row_ren vt_frz _ _ _) .nil) (by kernel_rfl)) ?_
      obtain ⟨c9, h⟩ := chk_some h
      refine RegJ.sees (S' := ⟨[(11, .own 0 0 y15.length), (42, .own 0 0 y15.length), (43, .tup [])], [some (.row 1 (List.map vt y15))]⟩) (Sees.cov (Cov.mk2 (rs := [0]) (by decide) rfl rfl (.cons (.inl (by rw [show v14.length = y15.length from of_decide_eq_true c9]; rfl)) (.cons (.inl (by rw [show v14.length = y15.length from of_decide_eq_true c9]; rfl)) (.cons (.inl rfl) .nil))) (obRen_row vt_frz rfl .nil))) ?_
      refine jp [(11, .own 0 0 y15.length)] ?_
      refine sr [(4, .own 0 0 y15.length), (5, vi 0)] [some (.row 1 (List.map vt y15))] ?_
      refine TriE.ret ?_
      have h := Option.some.inj h
      subst h
      exact DoneS.ret (S' := ⟨[(4, eS 1 vt y15), (5, vi 0)], []⟩) (Sees.trans (Sees.freeze 0 (fr' := [(4, eS 1 vt y15), (5, vi 0)]) (ob' := [none]) rfl (frz_row vt_frzE _) (.cons (frz_full rfl) (.cons (.refl _) .nil)) rfl) (sc [] (by decide) (by kernel_rfl) ObRen.nil rfl rfl)) rfl rfl
    intro k2 h
    refine sj ?_
    refine rn 1 [(11, .emp), (32, .map 0)] [some (.mp (mpE vt vb v6)), some (.row 1 [.map 0])] ?_
    refine RegJ.rngM (d := some 33) (t := 32) (n := 0) (ek := vt) (ev := vb) (l := v6) (by kernel_rfl) rfl rfl vt_frz vb_frz ?_
    refine jp [(11, .emp), (33, .itp 2)] ?_
    refine TriE.block ?_
    refine TriE.sees (S' := ⟨[(11, .own 1 0 ([] : List Str).length), (33, .itp 0)], [some (itO vt vb none v6), some (.row 1 (List.map vt ([] : List Str)))]⟩) (Sees.trans (Sees.co (fr' := [(11, .own 3 0 0), (33, .itp 2)]) (ob' := [none, some (.row 1 [.map 0]), some (itO vt vb none v6)]) (.cons .own (.cons .same .nil)) (.same (.same (.same .nil))) 1) (sc [2, 3] (by decide) (by kernel_rfl) (obRen_it rfl (obRen_row vt_frz rfl .nil)) rfl rfl)) ?_
    refine TriE.loopN h (fun (t : (List Str) × (Option (Str × Bool)) × (List (Str × Bool))) => match t with | (v9, v10, v11) => St.mk [(11, .own 1 0 v9.length), (33, .itp 0)] [some (itO vt vb v10 v11), some (.row 1 (List.map vt v9))]) rfl ?_
    clear h
    rintro back ⟨v9, v10, v11⟩ h
    dsimp only [restore_ByFirst_L2] at h
    refine sj ?_
    refine RegJ.nxtM (d := some 34) (n := 0) (t := 33) (c := v10) (l := v11) (by kernel_rfl) rfl rfl rfl (fun c4 => ?_) (fun j12 x13 c5 => ?_)
    · have h := cond_t h (len0 c4)
      refine jq 1 [(11, .own 1 0 v9.length), (33, .itp 0), (35, vb false)] [some (itO vt vb v10 v11), some (.row 1 (List.map vt v9))] ?_
      refine TriE.seq ?_
      refine TriE.cond (b := false) rfl (fun c6 => ?_) (fun c6 => ?_)
      · cases c6
      refine TriE.exit ?_
      exact Vs.intro (sc [1] (by decide) (by kernel_rfl) (obRen_row vt_frz rfl .nil) rfl rfl) ⟨v9, rfl, h⟩
    have h := pickK_at (cond_f h (lenS c5)) c5
    refine jq 1 [(11, .own 1 0 v9.length), (33, .itp 0), (35, vb true)] [some (itO vt vb (some x13) (List.eraseIdx v11 j12)), some (.row 1 (List.map vt v9))] ?_
    refine TriE.seq ?_
    refine TriE.cond (b := true) rfl (fun c7 => ?_) (fun c7 => ?_)
    rotate_left
    · cases c7
    refine TriE.skip ?_
    refine TriE.block ?_
    refine sj ?_
    refine RegJ.entM (d := some 36) (t := 33) (n := 0) (x := x13) (l := (List.eraseIdx v11 j12)) (by kernel_rfl) rfl rfl rfl ?_
    refine jq 2 [(11, .own 1 0 v9.length), (33, .itp 0), (12, vt x13.1)] [some (itO vt vb (some x13) (List.eraseIdx v11 j12)), some (.row 1 (List.map vt v9))] ?_
    refine TriE.regJ ?_
    refine rn 3 [(33, .itp 0), (38, .own 1 0 v9.length), (40, .own 2 0 1)] [some (itO vt vb (some x13) (List.eraseIdx v11 j12)), some (.row 1 (List.map vt v9)), some (.row 1 [vt x13.1])] ?_
    obtain ⟨c8, h⟩ := chk_some h
    refine je (.own 3 0 ((v9 ++ ([x13.1] : List Str)).length)) [some (itO vt vb (some x13) (List.eraseIdx v11 j12)), none, some (.row 1 [vt x13.1]), some (.row 1 (List.map vt (v9 ++ ([x13.1] : List Str))))] (cy (I0 41 (.app 1 16 (.t 38) (.t 40)))) (ok_app_own (l := v9) (l2 := ([x13.1] : List Str)) (e := vt) (u := .own 2 0 1) rfl rfl rfl rfl rfl c8) rfl rfl rfl ?_
    refine jq 1 [(33, .itp 0), (11, .own 3 0 ((v9 ++ ([x13.1] : List Str)).length))] [some (itO vt vb (some x13) (List.eraseIdx v11 j12)), none, some (.row 1 [vt x13.1]), some (.row 1 (List.map vt (v9 ++ ([x13.1] : List Str))))] ?_
    exact Vs.intro (sc [0, 3] (by decide) (by kernel_rfl) (obRen_it rfl (obRen_row vt_frz rfl .nil)) rfl rfl) ⟨((v9 ++ ([x13.1] : List Str)), (some x13), (List.eraseIdx v11 j12)), rfl, h⟩
  intro k1 h
  refine sj ?_
  refine rn 1 [(7, .ptr 3 0 0), (8, .ptr 4 0 0), (22, eS 1 vt a1)] [some (.row 1 [eS 6 eTask a0]), none, some (.mp (mpE vt vb ([] : List (Str × Bool)))), some (.row 1 [.map 2]), some (.row 1 [.fn (.func 120) [] [.ptr 3 0 0, .ptr 0 0 0, .ptr 4 0 0]])] ?_
  refine jv (vi (a1.length : Int)) (cy (I0 23 (.len 0 (.t 22)))) (ok_len_m rfl) rfl ?_
  refine jq 1 [(7, .ptr 3 0 0), (8, .ptr 4 0 0), (22, eS 1 vt a1), (23, vi (a1.length : Int)), (24, vi 0)] [some (.row 1 [eS 6 eTask a0]), none, some (.mp (mpE vt vb ([] : List (Str × Bool)))), some (.row 1 [.map 2]), some (.row 1 [.fn (.func 120) [] [.ptr 3 0 0, .ptr 0 0 0, .ptr 4 0 0]])] ?_
  refine TriE.block ?_
  refine TriE.sees (S' := ⟨[(7, .ptr 2 0 0), (8, .ptr 3 0 0), (22, eS 1 vt a1), (23, vi (a1.length : Int)), (24, vi 0)], [some (.row 1 [eS 6 eTask a0]), some (.mp (mpE vt vb ([] : List (Str × Bool)))), some (.row 1 [.map 1]), some (.row 1 [.fn (.func 120) [] [.ptr 2 0 0, .ptr 0 0 0, .ptr 3 0 0]])]⟩) (sc [0, 2, 3, 4] (by decide) (by kernel_rfl) (.cons rfl (obRen_mp vt_frz vb_frz rfl (.cons rfl (.cons rfl .nil)))) rfl rfl) ?_
  refine TriE.loopN h (fun (t : Nat × (List (Str × Bool))) => match t with | (v3, v4) => St.mk [(7, .ptr 2 0 0), (8, .ptr 3 0 0), (22, eS 1 vt a1), (23, vi (a1.length : Int)), (24, vi v3)] [some (.row 1 [eS 6 eTask a0]), some (.mp (mpE vt vb v4)), some (.row 1 [.map 1]), some (.row 1 [.fn (.func 120) [] [.ptr 2 0 0, .ptr 0 0 0, .ptr 3 0 0]])]) rfl ?_
  clear h
  rintro back ⟨v3, v4⟩ h
  dsimp only [restore_ByFirst_L1] at h
  refine sj ?_
  refine jv (vb (decide (v3 < a1.length))) (cy (I0 25 (.bin .lss false (.t 24) (.t 23)))) (n_lss (i := v3) (j := a1.length) rfl rfl) rfl ?_
  refine jp [(7, .ptr 2 0 0), (8, .ptr 3 0 0), (22, eS 1 vt a1), (23, vi (a1.length : Int)), (24, vi v3), (25, vb (decide (v3 < a1.length)))] ?_
  refine TriE.seq ?_
  refine TriE.cond (b := decide (v3 < a1.length)) rfl (fun c2 => ?_) (fun c2 => ?_)
  · have h := cond_t h c2
    refine TriE.skip ?_
    refine TriE.seq ?_
    refine TriE.block ?_
    refine sj ?_
    refine jv (.fptr 1 (List.map vt a1) v3 0) (cy (I0 26 (.iaddr 1 (.t 22) (.t 24)))) (ok_iaddr_m (j := v3) rfl rfl rfl c2) rfl ?_
    refine jv (vt (ix a1 v3)) (cy (I0 27 (.load false 1 (.t 26)))) (ok_load_fm (v := vt (ix a1 v3)) rfl c2 rfl) rfl ?_
    refine jq 1 [(7, .ptr 2 0 0), (8, .ptr 3 0 0), (22, eS 1 vt a1), (23, vi (a1.length : Int)), (24, vi v3), (10, vt (ix a1 v3))] [some (.row 1 [eS 6 eTask a0]), some (.mp (mpE vt vb v4)), some (.row 1 [.map 1]), some (.row 1 [.fn (.func 120) [] [.ptr 2 0 0, .ptr 0 0 0, .ptr 3 0 0]])] ?_
    refine TriE.regJ ?_
    refine rn 2 [(7, .ptr 2 0 0), (8, .ptr 3 0 0), (22, eS 1 vt a1), (23, vi (a1.length : Int)), (24, vi v3), (28, .fn (.func 120) [] [.ptr 2 0 0, .ptr 0 0 0, .ptr 3 0 0]), (29, vt (ix a1 v3))] [some (.row 1 [eS 6 eTask a0]), some (.mp (mpE vt vb v4)), some (.row 1 [.map 1]), some (.row 1 [.fn (.func 120) [] [.ptr 2 0 0, .ptr 0 0 0, .ptr 3 0 0]])] ?_
    obtain ⟨y5, hy5, h⟩ := bind_some h
    refine RegJ.op (Op1.dyn (y' := .tup []) (obx := [some (.row 1 [.map 1]), some (.mp (mpE vt vb v4)), some (.row 1 [eS 6 eTask a0]), some (.row 1 [.fn (.func 120) [] [.ptr 2 0 0, .ptr 0 0 0, .ptr 3 0 0]])]) (oby := [some (.row 1 [.map 1]), some (.mp (mpE vt vb y5)), some (.row 1 [eS 6 eTask a0]), some (.row 1 [.fn (.func 120) [] [.ptr 2 0 0, .ptr 0 0 0, .ptr 3 0 0]])]) (ob2 := [some (.row 1 [eS 6 eTask a0]), some (.mp (mpE vt vb y5)), some (.row 1 [.map 1]), some (.row 1 [.fn (.func 120) [] [.ptr 2 0 0, .ptr 0 0 0, .ptr 3 0 0]])]) _ _ _ (cy (I0 30 (.dyn (.t 28) [(.t 29)]))) rfl rfl (restore_ByFirst_f1_ok n (ix a1 v3) v4 a0 y5 hy5) [2, 1, 0, 3] (by kernel_rfl) (.cons rfl (.cons rfl .nil)) (by kernel_rfl) (by kernel_rfl) (.cons rfl (.same (mp_ren vt_frz vb_frz _ _) (.cons rfl (.cons rfl .nil)))) (by kernel_rfl) (.cons rfl (.same (mp_ren vt_frz vb_frz _ _) (.cons rfl (.cons rfl .nil)))) (by kernel_rfl)) ?_
    refine jp [(7, .ptr 2 0 0), (8, .ptr 3 0 0), (22, eS 1 vt a1), (23, vi (a1.length : Int)), (24, vi v3)] ?_
    refine TriE.regJ ?_
    obtain ⟨c3, h⟩ := chk_some h
    refine jv (vi ((v3 + 1 : Nat) : Int)) (cy (I0 31 (.bin .add false (.t 24) (.c (.p (.int .i64 1)))))) (r_addn (i := v3) (j := 1) rfl rfl c3) rfl ?_
    refine jq 1 [(7, .ptr 2 0 0), (8, .ptr 3 0 0), (22, eS 1 vt a1), (23, vi (a1.length : Int)), (24, vi ((v3 + 1 : Nat) : Int))] [some (.row 1 [eS 6 eTask a0]), some (.mp (mpE vt vb y5)), some (.row 1 [.map 1]), some (.row 1 [.fn (.func 120) [] [.ptr 2 0 0, .ptr 0 0 0, .ptr 3 0 0]])] ?_
    exact Vs.intro sy ⟨(v3 + 1, y5), rfl, h⟩
  have h := cond_f h c2
  refine TriE.exit ?_
  exact Vs.intro (sc [1, 2] (by decide) (by kernel_rfl) (obRen_mp vt_frz vb_frz rfl (.cons rfl .nil)) rfl rfl) ⟨v4, rfl, h⟩
theorem agrafferef08_CheckSet_ok (n : Nat) (a0 : List Task) (a1 : List Str) (r : Int) (h : agrafferef08_CheckSet n a0 a1 = some r) : FnL Tryz.prog 54 [eS 6 eTask a0, eS 1 vt a1] [] (vi r) [] := by
  dsimp only [agrafferef08_CheckSet] at h
  refine FnL.ofS (ts := [4]) Tryz.call54 Tryz.func54 rfl rfl (Nat.le_of_ble_eq_true rfl) (Nat.le_of_ble_eq_true rfl) (fun j h => absurd h (Nat.not_lt_zero j)) ?_
  refine sr [(0, eS 6 eTask a0), (1, eS 1 vt a1)] [] ?_
  refine TriE.seqK h (fun (_ : Unit) => St.mk [(1, eS 1 vt a1)] []) ?_ ?_
  · rintro ⟨⟩ h
    refine TriE.seqK h (fun (_ : Unit) => St.mk [] []) ?_ ?_
    · rintro ⟨⟩ h
      refine sr [(4, vi 0)] [] ?_
      refine TriE.ret ?_
      have h := Option.some.inj h
      subst h
      exact DoneS.ret (S' := ⟨[(4, vi 0)], []⟩) Sees.refl rfl rfl
    intro k2 h
    refine sr [(1, eS 1 vt a1), (6, vi 1)] [] ?_
    refine TriE.block ?_
    refine TriE.sees (S' := ⟨[(1, eS 1 vt a1), (6, vi 1)], []⟩) sy ?_
    refine TriE.loopN h (fun (v4 : Nat) => St.mk [(1, eS 1 vt a1), (6, vi v4)] []) rfl ?_
    clear h
    rintro back v4 h
    dsimp only [agrafferef08_CheckSet_L2] at h
    refine TriE.seq ?_
    refine sj ?_
    refine rn 2 [(1, eS 1 vt a1), (6, vi v4), (20, vi v4), (21, eS 1 vt a1)] [] ?_
    refine jv (vi (a1.length : Int)) (cy (I0 22 (.len 0 (.t 21)))) (ok_len_m rfl) rfl ?_
    refine jv (vb (decide (v4 < a1.length))) (cy (I0 23 (.bin .lss false (.t 20) (.t 22)))) (n_lss (i := v4) (j := a1.length) rfl rfl) rfl ?_
    refine jp [(1, eS 1 vt a1), (6, vi v4), (23, vb (decide (v4 < a1.length)))] ?_
    refine TriE.cond (b := decide (v4 < a1.length)) rfl (fun c4 => ?_) (fun c4 => ?_)
    · have h := cond_t h c4
      refine TriE.skip ?_
      refine TriE.seq ?_
      refine TriE.block ?_
      refine TriE.seq ?_
      refine TriE.sees (Sees.less (fr' := [(1, eS 1 vt a1), (6, vi v4)]) (.cons rfl (.cons rfl .nil))) ?_
      refine TriE.draw (by kernel_rfl) ?_
      refine RegD.run 2 [(27, vi v4), (26, eS 1 vt a1), (1, eS 1 vt a1), (6, vi v4)] [none, none] (by kernel_rfl) ?_
      obtain ⟨c5, h⟩ := chk_some h
      refine dv (vi ((v4 : Int) - 1)) (cy (I0 28 (.bin .sub false (.t 27) (.c (.p (.int .i64 1)))))) (r_sub rfl rfl c5) rfl ?_
      obtain ⟨c6, h⟩ := chk_some h
      refine dv (.fptr 1 (List.map vt a1) (((v4 : Int) - 1).toNat) 0) (cy (I0 29 (.iaddr 1 (.t 26) (.t 28)))) (ok_iaddr_m (j := ((v4 : Int) - 1).toNat) rfl rfl (inB_to c6) (inB_lt c6)) rfl ?_
      obtain ⟨c7, h⟩ := chk_some h
      refine dv (vt (ix a1 (((v4 : Int) - 1).toNat))) (cy (I0 30 (.load false 1 (.t 29)))) (ok_load_fm (v := vt (ix a1 (((v4 : Int) - 1).toNat))) rfl c7 rfl) rfl ?_
      refine RegD.run 2 [(32, vi v4), (31, eS 1 vt a1), (30, vt (ix a1 (((v4 : Int) - 1).toNat))), (29, .fptr 1 (List.map vt a1) (((v4 : Int) - 1).toNat) 0), (28, vi ((v4 : Int) - 1)), (27, vi v4), (26, eS 1 vt a1), (1, eS 1 vt a1), (6, vi v4)] [none, none, none, none, none, none, none] (by kernel_rfl) ?_
      refine dv (.fptr 1 (List.map vt a1) v4 0) (cy (I0 33 (.iaddr 1 (.t 31) (.t 32)))) (ok_iaddr_m (j := v4) rfl rfl rfl c4) rfl ?_
      refine dv (vt (ix a1 v4)) (cy (I0 34 (.load false 1 (.t 33)))) (ok_load_fm (v := vt (ix a1 v4)) rfl c4 rfl) rfl ?_
      refine RegD.run 1 [(35, vb (!bLt (ix a1 (((v4 : Int) - 1).toNat)) (ix a1 v4))), (34, vt (ix a1 v4)), (33, .fptr 1 (List.map vt a1) v4 0), (32, vi v4), (31, eS 1 vt a1), (30, vt (ix a1 (((v4 : Int) - 1).toNat))), (29, .fptr 1 (List.map vt a1) (((v4 : Int) - 1).toNat) 0), (28, vi ((v4 : Int) - 1)), (27, vi v4), (26, eS 1 vt a1), (1, eS 1 vt a1), (6, vi v4)] [none, none, none, none, none, none, none, none, none, none] (by kernel_rfl) ?_
      refine RegD.done rfl (by kernel_rfl) (S' := ⟨[(1, eS 1 vt a1), (6, vi v4), (35, vb (!bLt (ix a1 (((v4 : Int) - 1).toNat)) (ix a1 v4)))], []⟩) (sc [] (by decide) (by kernel_rfl) ObRen.nil rfl rfl) ?_
      refine TriE.cond (b := !bLt (ix a1 (((v4 : Int) - 1).toNat)) (ix a1 v4)) rfl (fun c8 => ?_) (fun c8 => ?_)
      · have h := cond_t h c8
        refine sr [(4, vi 9)] [] ?_
        refine TriE.ret ?_
        have h := Option.some.inj h
        subst h
        exact DoneS.ret (S' := ⟨[(4, vi 9)], []⟩) Sees.refl rfl rfl
      have h := cond_f h c8
      refine TriE.skip ?_
      refine TriE.regJ ?_
      refine rn 1 [(1, eS 1 vt a1), (24, vi v4)] [] ?_
      obtain ⟨c9, h⟩ := chk_some h
      refine jv (vi ((v4 + 1 : Nat) : Int)) (cy (I0 25 (.bin .add false (.t 24) (.c (.p (.int .i64 1)))))) (r_addn (i := v4) (j := 1) rfl rfl c9) rfl ?_
      refine jq 1 [(1, eS 1 vt a1), (6, vi ((v4 + 1 : Nat) : Int))] [] ?_
      exact Vs.intro sy ⟨(v4 + 1), rfl, h⟩
    have h := cond_f h c4
    refine TriE.exit ?_
    exact Vs.intro sy ⟨(), rfl, h⟩
  intro k1 h
  refine sr [(0, eS 6 eTask a0), (1, eS 1 vt a1), (5, vi 0)] [] ?_
  refine TriE.block ?_
  refine TriE.sees (S' := ⟨[(0, eS 6 eTask a0), (1, eS 1 vt a1), (5, vi 0)], []⟩) sy ?_
  refine TriE.loopN h (fun (v2 : Nat) => St.mk [(0, eS 6 eTask a0), (1, eS 1 vt a1), (5, vi v2)] []) rfl ?_
  clear h
  rintro back v2 h
  dsimp only [agrafferef08_CheckSet_L1] at h
  refine TriE.seq ?_
  refine sj ?_
  refine rn 2 [(0, eS 6 eTask a0), (1, eS 1 vt a1), (5, vi v2), (7, vi v2), (8, eS 1 vt a1)] [] ?_
  refine jv (vi (a1.length : Int)) (cy (I0 9 (.len 0 (.t 8)))) (ok_len_m rfl) rfl ?_
  refine jv (vb (decide (v2 < a1.length))) (cy (I0 10 (.bin .lss false (.t 7) (.t 9)))) (n_lss (i := v2) (j := a1.length) rfl rfl) rfl ?_
  refine jp [(0, eS 6 eTask a0), (1, eS 1 vt a1), (5, vi v2), (10, vb (decide (v2 < a1.length)))] ?_
  refine TriE.cond (b := decide (v2 < a1.length)) rfl (fun c1 => ?_) (fun c1 => ?_)
  · have h := cond_t h c1
    refine TriE.skip ?_
    refine TriE.seq ?_
    refine TriE.block ?_
    refine sj ?_
    refine rn 3 [(0, eS 6 eTask a0), (1, eS 1 vt a1), (5, vi v2), (13, eS 6 eTask a0), (14, eS 1 vt a1), (15, vi v2)] [] ?_
    refine jv (.fptr 1 (List.map vt a1) v2 0) (cy (I0 16 (.iaddr 1 (.t 14) (.t 15)))) (ok_iaddr_m (j := v2) rfl rfl rfl c1) rfl ?_
    refine jv (vt (ix a1 v2)) (cy (I0 17 (.load false 1 (.t 16)))) (ok_load_fm (v := vt (ix a1 v2)) rfl c1 rfl) rfl ?_
    obtain ⟨y3, hy3, h⟩ := bind_some h
    refine RegJ.op (Op1.call (y' := vi y3) (obx := []) (oby := []) (ob2 := []) _ _ (cy (I0 18 (.call 73 [(.t 13), (.t 17)]))) rfl (agrafferef08_Find_ok n a0 (ix a1 v2) y3 hy3) [] (by kernel_rfl) (.cons rfl (.cons rfl (.cons rfl .nil))) (by kernel_rfl) (by kernel_rfl) ObsRen.nil (by kernel_rfl) ObsRen.nil (by kernel_rfl)) ?_
    refine jq 1 [(0, eS 6 eTask a0), (1, eS 1 vt a1), (5, vi v2), (19, vb (decide (y3 < (0 : Int))))] [] ?_
    refine TriE.cond (b := decide (y3 < (0 : Int))) rfl (fun c2 => ?_) (fun c2 => ?_)
    · have h := cond_t h c2
      refine sr [(4, vi 6)] [] ?_
      refine TriE.ret ?_
      have h := Option.some.inj h
      subst h
      exact DoneS.ret (S' := ⟨[(4, vi 6)], []⟩) Sees.refl rfl rfl
    have h := cond_f h c2
    refine TriE.skip ?_
    refine TriE.regJ ?_
    refine rn 1 [(0, eS 6 eTask a0), (1, eS 1 vt a1), (11, vi v2)] [] ?_
    obtain ⟨c3, h⟩ := chk_some h
    refine jv (vi ((v2 + 1 : Nat) : Int)) (cy (I0 12 (.bin .add false (.t 11) (.c (.p (.int .i64 1)))))) (r_addn (i := v2) (j := 1) rfl rfl c3) rfl ?_
    refine jq 1 [(0, eS 6 eTask a0), (1, eS 1 vt a1), (5, vi ((v2 + 1 : Nat) : Int))] [] ?_
    exact Vs.intro sy ⟨(v2 + 1), rfl, h⟩
  have h := cond_f h c1
  refine TriE.exit ?_
  exact Vs.intro sy ⟨(), rfl, h⟩
theorem agrafferef08_Put_ok (n : Nat) (a0 : List Str) (a1 : Str) (r : (List Str)) (h : agrafferef08_Put n a0 a1 = some r) : FnL Tryz.prog 105 [eS 1 vt a0, vt a1] [] (eS 1 vt r) [] := by
  dsimp only [agrafferef08_Put] at h
  refine FnL.ofS (ts := [4]) Tryz.call105 Tryz.func105 rfl rfl (Nat.le_of_ble_eq_true rfl) (Nat.le_of_ble_eq_true rfl) (fun j h => absurd h (Nat.not_lt_zero j)) ?_
  refine sr [(0, eS 1 vt a0), (1, vt a1)] [] ?_
  refine sr [(0, eS 1 vt a0), (1, vt a1), (5, .emp)] [] ?_
  refine sr [(0, eS 1 vt a0), (1, vt a1), (5, .emp), (6, vb false)] [] ?_
  refine TriE.seqK h (fun (t : Bool × (List Str)) => match t with | (v8, v9) => St.mk [(1, vt a1), (5, .own 0 0 v9.length), (6, vb v8)] [some (.row 1 (List.map vt v9))]) ?_ ?_
  · rintro ⟨v8, v9⟩ h
    refine TriE.seqK h (fun (v10 : (List Str)) => St.mk [(5, .own 0 0 v10.length)] [some (.row 1 (List.map vt v10))]) ?_ ?_
    · rintro v10 h
      refine sr [(4, .own 0 0 v10.length)] [some (.row 1 (List.map vt v10))] ?_
      refine TriE.ret ?_
      have h := Option.some.inj h
      subst h
      exact DoneS.ret (S' := ⟨[(4, eS 1 vt v10)], []⟩) (Sees.trans (Sees.freeze 0 (fr' := [(4, eS 1 vt v10)]) (ob' := [none]) rfl (frz_row vt_frzE _) (.cons (frz_full rfl) .nil) rfl) (sc [] (by decide) (by kernel_rfl) ObRen.nil rfl rfl)) rfl rfl
    intro k3 h
    refine sr [(1, vt a1), (5, .own 0 0 v9.length), (42, vb (!v8))] [some (.row 1 (List.map vt v9))] ?_
    refine TriE.cond (b := !v8) rfl (fun c7 => ?_) (fun c7 => ?_)
    · have h := cond_t h c7
      refine TriE.regJ ?_
      refine rn 3 [(43, .own 0 0 v9.length), (45, .own 1 0 1)] [some (.row 1 (List.map vt v9)), some (.row 1 [vt a1])] ?_
      obtain ⟨c8, h⟩ := chk_some h
      refine je (.own 2 0 ((v9 ++ ([a1] : List Str)).length)) [none, some (.row 1 [vt a1]), some (.row 1 (List.map vt (v9 ++ ([a1] : List Str))))] (cy (I0 46 (.app 1 16 (.t 43) (.t 45)))) (ok_app_own (l := v9) (l2 := ([a1] : List Str)) (e := vt) (u := .own 1 0 1) rfl rfl rfl rfl rfl c8) rfl rfl rfl ?_
      refine jq 1 [(5, .own 2 0 ((v9 ++ ([a1] : List Str)).length))] [none, some (.row 1 [vt a1]), some (.row 1 (List.map vt (v9 ++ ([a1] : List Str))))] ?_
      exact Vs.intro (sc [2] (by decide) (by kernel_rfl) (obRen_row vt_frz rfl .nil) rfl rfl) ⟨(v9 ++ ([a1] : List Str)), rfl, h⟩
    have h := cond_f h c7
    refine TriE.skip ?_
    exact Vs.intro sy ⟨v9, rfl, h⟩
  intro k2 h
  refine sr [(0, eS 1 vt a0), (1, vt a1), (5, .emp), (6, vb false), (7, vi 0)] [] ?_
  refine TriE.block ?_
  refine TriE.sees (S' := ⟨[(0, eS 1 vt a0), (1, vt a1), (5, .own 0 0 ([] : List Str).length), (6, vb false), (7, vi 0)], [some (.row 1 (List.map vt ([] : List Str)))]⟩) (Sees.trans (Sees.co (fr' := [(0, eS 1 vt a0), (1, vt a1), (5, .own 0 0 0), (6, vb false), (7, vi 0)]) (ob' := []) (.cons .same (.cons .same (.cons .own (.cons .same (.cons .same .nil))))) ObCo.nil 1) sy) ?_
  refine TriE.loopN h (fun (t : (List Str) × Bool × Nat) => match t with | (v3, v4, v5) => St.mk [(0, eS 1 vt a0), (1, vt a1), (5, .own 0 0 v3.length), (6, vb v4), (7, vi v5)] [some (.row 1 (List.map vt v3))]) rfl ?_
  clear h
  rintro back ⟨v3, v4, v5⟩ h
  dsimp only [agrafferef08_Put_L1] at h
  refine TriE.seq ?_
  refine sj ?_
  refine rn 2 [(0, eS 1 vt a0), (1, vt a1), (5, .own 0 0 v3.length), (6, vb v4), (7, vi v5), (8, vi v5), (9, eS 1 vt a0)] [some (.row 1 (List.map vt v3))] ?_
  refine jv (vi (a0.length : Int)) (cy (I0 10 (.len 0 (.t 9)))) (ok_len_m rfl) rfl ?_
  refine jv (vb (decide (v5 < a0.length))) (cy (I0 11 (.bin .lss false (.t 8) (.t 10)))) (n_lss (i := v5) (j := a0.length) rfl rfl) rfl ?_
  refine jp [(0, eS 1 vt a0), (1, vt a1), (5, .own 0 0 v3.length), (6, vb v4), (7, vi v5), (11, vb (decide (v5 < a0.length)))] ?_
  refine TriE.cond (b := decide (v5 < a0.length)) rfl (fun c1 => ?_) (fun c1 => ?_)
  · have h := cond_t h c1
    refine TriE.skip ?_
    refine TriE.seq ?_
    refine TriE.block ?_
    refine TriE.seqK h (fun (t : (List Str) × Bool) => match t with | (v6, v7) => St.mk [(0, eS 1 vt a0), (1, vt a1), (7, vi v5), (6, vb v7), (5, .own 0 0 v6.length)] [some (.row 1 (List.map vt v6))]) ?_ ?_
    · rintro ⟨v6, v7⟩ h
      refine TriE.regJ ?_
      refine rn 3 [(0, eS 1 vt a0), (1, vt a1), (7, vi v5), (6, vb v7), (34, .own 0 0 v6.length), (35, eS 1 vt a0), (36, vi v5)] [some (.row 1 (List.map vt v6))] ?_
      refine jv (.fptr 1 (List.map vt a0) v5 0) (cy (I0 37 (.iaddr 1 (.t 35) (.t 36)))) (ok_iaddr_m (j := v5) rfl rfl rfl c1) rfl ?_
      refine jv (vt (ix a0 v5)) (cy (I0 38 (.load false 1 (.t 37)))) (ok_load_fm (v := vt (ix a0 v5)) rfl c1 rfl) rfl ?_
      refine rn 1 [(0, eS 1 vt a0), (1, vt a1), (7, vi v5), (6, vb v7), (34, .own 0 0 v6.length), (39, .own 1 0 1)] [some (.row 1 (List.map vt v6)), some (.row 1 [vt (ix a0 v5)])] ?_
      obtain ⟨c5, h⟩ := chk_some h
      refine je (.own 2 0 ((v6 ++ ([(ix a0 v5)] : List Str)).length)) [none, some (.row 1 [vt (ix a0 v5)]), some (.row 1 (List.map vt (v6 ++ ([(ix a0 v5)] : List Str))))] (cy (I0 40 (.app 1 16 (.t 34) (.t 39)))) (ok_app_own (l := v6) (l2 := ([(ix a0 v5)] : List Str)) (e := vt) (u := .own 1 0 1) rfl rfl rfl rfl rfl c5) rfl rfl rfl ?_
      refine jq 1 [(0, eS 1 vt a0), (1, vt a1), (7, vi v5), (6, vb v7), (5, .own 2 0 ((v6 ++ ([(ix a0 v5)] : List Str)).length))] [none, some (.row 1 [vt (ix a0 v5)]), some (.row 1 (List.map vt (v6 ++ ([(ix a0 v5)] : List Str))))] ?_
      refine TriE.regJ ?_
      refine rn 1 [(0, eS 1 vt a0), (1, vt a1), (6, vb v7), (5, .own 2 0 ((v6 ++ ([(ix a0 v5)] : List Str)).length)), (12, vi v5)] [none, some (.row 1 [vt (ix a0 v5)]), some (.row 1 (List.map vt (v6 ++ ([(ix a0 v5)] : List Str))))] ?_
      obtain ⟨c6, h⟩ := chk_some h
      refine jv (vi ((v5 + 1 : Nat) : Int)) (cy (I0 13 (.bin .add false (.t 12) (.c (.p (.int .i64 1)))))) (r_addn (i := v5) (j := 1) rfl rfl c6) rfl ?_
      refine jq 1 [(0, eS 1 vt a0), (1, vt a1), (6, vb v7), (5, .own 2 0 ((v6 ++ ([(ix a0 v5)] : List Str)).length)), (7, vi ((v5 + 1 : Nat) : Int))] [none, some (.row 1 [vt (ix a0 v5)]), some (.row 1 (List.map vt (v6 ++ ([(ix a0 v5)] : List Str))))] ?_
      exact Vs.intro (sc [2] (by decide) (by kernel_rfl) (obRen_row vt_frz rfl .nil) rfl rfl) ⟨((v6 ++ ([(ix a0 v5)] : List Str)), v7, v5 + 1), rfl, h⟩
    intro k1 h
    refine sj ?_
    refine rn 3 [(0, eS 1 vt a0), (1, vt a1), (5, .own 0 0 v3.length), (6, vb v4), (7, vi v5), (16, vb (!v4))] [some (.row 1 (List.map vt v3))] ?_
    refine RegJ.op (Op1.valk (v := eS 1 vt a0) _ _ (cy (IG 17 (.mov (.t 0)) 16 true)) rfl (by kernel_rfl) (fun hg => (.cons rfl .nil))) ?_
    refine RegJ.op (Op1.valk (v := vi v5) _ _ (cy (IG 18 (.mov (.t 7)) 16 true)) rfl (by kernel_rfl) (fun hg => (.cons rfl .nil))) ?_
    refine RegJ.op (Op1.valg (v := .fptr 1 (List.map vt a0) v5 0) _ _ (cy (IG 19 (.iaddr 1 (.t 17) (.t 18)) 16 true)) rfl (fun hg => (ok_iaddr_m (j := v5) rfl rfl rfl c1)) (fun hg => (.cons hg (.cons hg .nil)))) ?_
    refine RegJ.op (Op1.valg (v := vt (ix a0 v5)) _ _ (cy (IG 20 (.load false 1 (.t 19)) 16 true)) rfl (fun hg => (ok_load_fm (v := vt (ix a0 v5)) rfl c1 rfl)) (fun hg => (.cons hg .nil))) ?_
    refine RegJ.op (Op1.valk (v := vt a1) _ _ (cy (IG 21 (.mov (.t 1)) 16 true)) rfl (by kernel_rfl) (fun hg => (.cons rfl .nil))) ?_
    refine RegJ.op (Op1.valk (v := vb (!bLt (ix a0 v5) a1)) _ _ (cy (IG 22 (.bin .geq false (.t 20) (.t 21)) 16 true)) rfl (by kernel_rfl) (fun hg => (.cons hg (.cons hg .nil)))) ?_
    refine RegJ.op (Op1.and (cy (I0 23 (.pick (.t 16) (.t 22) (.c (.p (.bool false)))))) rfl rfl (by first | exact hokA1 | exact hokA0 | simp)) ?_
    refine jp [(0, eS 1 vt a0), (1, vt a1), (5, .own 0 0 v3.length), (6, vb v4), (7, vi v5), (23, vb ((!v4) && (!bLt (ix a0 v5) a1)))] ?_
    refine TriE.cond (b := (!v4) && (!bLt (ix a0 v5) a1)) rfl (fun c2 => ?_) (fun c2 => ?_)
    · have h := cond_t h c2
      refine sr [(0, eS 1 vt a0), (1, vt a1), (5, .own 0 0 v3.length), (7, vi v5), (6, vb true)] [some (.row 1 (List.map vt v3))] ?_
      refine sj ?_
      refine rn 2 [(0, eS 1 vt a0), (1, vt a1), (5, .own 0 0 v3.length), (7, vi v5), (6, vb true), (24, eS 1 vt a0), (25, vi v5)] [some (.row 1 (List.map vt v3))] ?_
      refine jv (.fptr 1 (List.map vt a0) v5 0) (cy (I0 26 (.iaddr 1 (.t 24) (.t 25)))) (ok_iaddr_m (j := v5) rfl rfl rfl c1) rfl ?_
      refine jv (vt (ix a0 v5)) (cy (I0 27 (.load false 1 (.t 26)))) (ok_load_fm (v := vt (ix a0 v5)) rfl c1 rfl) rfl ?_
      refine jq 2 [(0, eS 1 vt a0), (1, vt a1), (5, .own 0 0 v3.length), (7, vi v5), (6, vb true), (29, vb (!((ix a0 v5) == a1)))] [some (.row 1 (List.map vt v3))] ?_
      refine TriE.cond (b := !((ix a0 v5) == a1)) rfl (fun c3 => ?_) (fun c3 => ?_)
      · have h := cond_t h c3
        refine TriE.regJ ?_
        refine rn 3 [(0, eS 1 vt a0), (1, vt a1), (7, vi v5), (6, vb true), (30, .own 0 0 v3.length), (32, .own 1 0 1)] [some (.row 1 (List.map vt v3)), some (.row 1 [vt a1])] ?_
        obtain ⟨c4, h⟩ := chk_some h
        refine je (.own 2 0 ((v3 ++ ([a1] : List Str)).length)) [none, some (.row 1 [vt a1]), some (.row 1 (List.map vt (v3 ++ ([a1] : List Str))))] (cy (I0 33 (.app 1 16 (.t 30) (.t 32)))) (ok_app_own (l := v3) (l2 := ([a1] : List Str)) (e := vt) (u := .own 1 0 1) rfl rfl rfl rfl rfl c4) rfl rfl rfl ?_
        refine jq 1 [(0, eS 1 vt a0), (1, vt a1), (7, vi v5), (6, vb true), (5, .own 2 0 ((v3 ++ ([a1] : List Str)).length))] [none, some (.row 1 [vt a1]), some (.row 1 (List.map vt (v3 ++ ([a1] : List Str))))] ?_
        exact Vs.intro (sc [2] (by decide) (by kernel_rfl) (obRen_row vt_frz rfl .nil) rfl rfl) ⟨((v3 ++ ([a1] : List Str)), true), rfl, h⟩
      have h := cond_f h c3
      refine TriE.skip ?_
      exact Vs.intro sy ⟨(v3, true), rfl, h⟩
    have h := cond_f h c2
    refine TriE.skip ?_
    exact Vs.intro sy ⟨(v3, v4), rfl, h⟩
  have h := cond_f h c1
  refine TriE.exit ?_
  exact Vs.intro sy ⟨(v4, v3), rfl, h⟩
theorem agrafferef08_ByFirst_ok (n : Nat) (a0 : List Task) (a1 : List Str) (r : (List Str)) (h : agrafferef08_ByFirst n a0 a1 = some r) : FnL Tryz.prog 55 [eS 6 eTask a0, eS 1 vt a1] [] (eS 1 vt r) [] := by
  dsimp only [agrafferef08_ByFirst] at h
  refine FnL.ofS (ts := [4]) Tryz.call55 Tryz.func55 rfl rfl (Nat.le_of_ble_eq_true rfl) (Nat.le_of_ble_eq_true rfl) (fun j h => absurd h (Nat.not_lt_zero j)) ?_
  refine sr [(0, eS 6 eTask a0), (1, eS 1 vt a1)] [] ?_
  refine sj ?_
  refine rn 1 [(0, eS 6 eTask a0), (11, eS 1 vt a1)] [] ?_
  obtain ⟨y1, hy1, h⟩ := bind_some h
  refine RegJ.op (Op1.call (y' := .own 0 0 a1.length) (obx := []) (oby := [some (.row 1 (List.map vt a1))]) (ob2 := [some (.row 1 (List.map vt a1))]) _ _ (cy (I0 12 (.call 18 [(.t 11)]))) rfl (agraffebase_CopyTexts_2_ok n a1 y1 hy1) [] (by kernel_rfl) (.cons rfl (.cons rfl .nil)) (by kernel_rfl) (by kernel_rfl) ObsRen.nil (by kernel_rfl) (.same (row_ren vt_frz _ _ _) .nil) (by kernel_rfl)) ?_
  refine jq 1 [(0, eS 6 eTask a0), (5, .own 0 0 a1.length)] [some (.row 1 (List.map vt a1))] ?_
  refine TriE.seqK h (fun (v82 : (List Str)) => St.mk [(5, eS 1 vt v82)] []) ?_ ?_
  · rintro v82 h
    refine sr [(4, eS 1 vt v82)] [] ?_
    refine TriE.ret ?_
    have h := Option.some.inj h
    subst h
    exact DoneS.ret (S' := ⟨[(4, eS 1 vt v82)], []⟩) Sees.refl rfl rfl
  intro k5 h
  refine sr [(0, eS 6 eTask a0), (5, .own 0 0 a1.length), (6, vb true)] [some (.row 1 (List.map vt a1))] ?_
  refine TriE.block ?_
  refine TriE.sees (S' := ⟨[(0, eS 6 eTask a0), (5, eS 1 vt a1), (6, vb true)], []⟩) (Sees.trans (Sees.freeze 0 (fr' := [(0, eS 6 eTask a0), (5, eS 1 vt a1), (6, vb true)]) (ob' := [none]) rfl (frz_row vt_frzE _) (.cons (.refl _) (.cons (frz_full rfl) (.cons (.refl _) .nil))) rfl) (sc [] (by decide) (by kernel_rfl) ObRen.nil rfl rfl)) ?_
  refine TriE.loopN h (fun (t : (List Str) × Bool) => match t with | (v41, v42) => St.mk [(0, eS 6 eTask a0), (5, eS 1 vt v41), (6, vb v42)] []) rfl ?_
  clear h
  rintro k4 ⟨v41, v42⟩ h
  dsimp only [agrafferef08_ByFirst_L4] at h
  refine TriE.seq ?_
  refine sr [(0, eS 6 eTask a0), (5, eS 1 vt v41), (13, vb v42)] [] ?_
  refine TriE.cond (b := v42) rfl (fun c1 => ?_) (fun c1 => ?_)
  · have h := cond_t h c1
    refine TriE.skip ?_
    refine TriE.block ?_
    refine sr [(0, eS 6 eTask a0), (5, eS 1 vt v41), (6, vb false)] [] ?_
    refine sr [(0, eS 6 eTask a0), (5, eS 1 vt v41), (6, vb false), (7, vi 0)] [] ?_
    refine TriE.block ?_
    refine TriE.sees (S' := ⟨[(0, eS 6 eTask a0), (5, eS 1 vt v41), (6, vb false), (7, vi 0)], []⟩) sy ?_
    refine TriE.loopN h (fun (t : (List Str) × Bool × Nat) => match t with | (v61, v62, v63) => St.mk [(0, eS 6 eTask a0), (5, eS 1 vt v61), (6, vb v62), (7, vi v63)] []) rfl ?_
    clear h
    rintro back ⟨v61, v62, v63⟩ h
    dsimp only [agrafferef08_ByFirst_L3] at h
    refine TriE.seq ?_
    refine sj ?_
    refine rn 2 [(0, eS 6 eTask a0), (5, eS 1 vt v61), (6, vb v62), (7, vi v63), (14, vi v63), (15, eS 6 eTask a0)] [] ?_
    refine jv (vi (a0.length : Int)) (cy (I0 16 (.len 0 (.t 15)))) (ok_len_m rfl) rfl ?_
    refine jv (vb (decide (v63 < a0.length))) (cy (I0 17 (.bin .lss false (.t 14) (.t 16)))) (n_lss (i := v63) (j := a0.length) rfl rfl) rfl ?_
    refine jp [(0, eS 6 eTask a0), (5, eS 1 vt v61), (6, vb v62), (7, vi v63), (17, vb (decide (v63 < a0.length)))] ?_
    refine TriE.cond (b := decide (v63 < a0.length)) rfl (fun c2 => ?_) (fun c2 => ?_)
    · have h := cond_t h c2
      refine TriE.skip ?_
      refine TriE.seqK h (fun (t : (List Str) × Bool) => match t with | (v80, v81) => St.mk [(0, eS 6 eTask a0), (5, eS 1 vt v80), (6, vb v81), (7, vi v63)] []) ?_ ?_
      · rintro ⟨v80, v81⟩ h
        refine TriE.regJ ?_
        refine rn 1 [(0, eS 6 eTask a0), (5, eS 1 vt v80), (6, vb v81), (18, vi v63)] [] ?_
        obtain ⟨c12, h⟩ := chk_some h
        refine jv (vi ((v63 + 1 : Nat) : Int)) (cy (I0 19 (.bin .add false (.t 18) (.c (.p (.int .i64 1)))))) (r_addn (i := v63) (j := 1) rfl rfl c12) rfl ?_
        refine jq 1 [(0, eS 6 eTask a0), (5, eS 1 vt v80), (6, vb v81), (7, vi ((v63 + 1 : Nat) : Int))] [] ?_
        exact Vs.intro sy ⟨(v80, v81, v63 + 1), rfl, h⟩
      intro k3 h
      refine TriE.block ?_
      refine TriE.seq ?_
      refine sj ?_
      refine rn 3 [(0, eS 6 eTask a0), (5, eS 1 vt v61), (6, vb v62), (7, vi v63), (20, eS 1 vt v61), (21, eS 6 eTask a0), (22, vi v63)] [] ?_
      refine jv (.fptr 6 (List.map eTask a0) v63 0) (cy (I0 23 (.iaddr 6 (.t 21) (.t 22)))) (ok_iaddr_m (j := v63) rfl rfl rfl c2) rfl ?_
      refine rn 1 [(0, eS 6 eTask a0), (5, eS 1 vt v61), (6, vb v62), (7, vi v63), (20, eS 1 vt v61), (24, .fptr 6 (List.map eTask a0) v63 0)] [] ?_
      refine jv (vt ((ix a0 v63).Name)) (cy (I0 25 (.load false 1 (.t 24)))) (ok_load_fm (v := vt ((ix a0 v63).Name)) rfl c2 rfl) rfl ?_
      obtain ⟨y64, hy64, h⟩ := bind_some h
      refine RegJ.op (Op1.call (y' := vb y64) (obx := []) (oby := []) (ob2 := []) _ _ (cy (I0 26 (.call 81 [(.t 20), (.t 25)]))) rfl (agraffebase_HasText_ok n v61 ((ix a0 v63).Name) y64 hy64) [] (by kernel_rfl) (.cons rfl (.cons rfl (.cons rfl .nil))) (by kernel_rfl) (by kernel_rfl) ObsRen.nil (by kernel_rfl) ObsRen.nil (by kernel_rfl)) ?_
      refine jq 1 [(0, eS 6 eTask a0), (5, eS 1 vt v61), (6, vb v62), (7, vi v63), (27, vb (!y64))] [] ?_
      refine TriE.cond (b := !y64) rfl (fun c3 => ?_) (fun c3 => ?_)
      · have h := cond_t h c3
        refine TriE.exit ?_
        exact Vs.intro sy ⟨(v61, v62), rfl, h⟩
      have h := cond_f h c3
      refine TriE.skip ?_
      refine sj ?_
      refine rn 2 [(0, eS 6 eTask a0), (5, eS 1 vt v61), (6, vb v62), (7, vi v63), (28, eS 6 eTask a0), (29, vi v63)] [] ?_
      refine jv (.fptr 6 (List.map eTask a0) v63 0) (cy (I0 30 (.iaddr 6 (.t 28) (.t 29)))) (ok_iaddr_m (j := v63) rfl rfl rfl c2) rfl ?_
      refine rn 1 [(0, eS 6 eTask a0), (5, eS 1 vt v61), (6, vb v62), (7, vi v63), (31, .fptr 6 (List.map eTask a0) v63 3)] [] ?_
      refine jv (eS 1 vt ((ix a0 v63).Needs)) (cy (I0 32 (.load false 1 (.t 31)))) (ok_load_fm (v := eS 1 vt ((ix a0 v63).Needs)) rfl c2 rfl) rfl ?_
      obtain ⟨y65, hy65, h⟩ := bind_some h
      refine RegJ.op (Op1.call (y' := .own 0 0 (((ix a0 v63).Needs).length)) (obx := []) (oby := [some (.row 1 (List.map vt ((ix a0 v63).Needs)))]) (ob2 := [some (.row 1 (List.map vt ((ix a0 v63).Needs)))]) _ _ (cy (I0 33 (.call 18 [(.t 32)]))) rfl (agraffebase_CopyTexts_2_ok n ((ix a0 v63).Needs) y65 hy65) [] (by kernel_rfl) (.cons rfl (.cons rfl .nil)) (by kernel_rfl) (by kernel_rfl) ObsRen.nil (by kernel_rfl) (.same (row_ren vt_frz _ _ _) .nil) (by kernel_rfl)) ?_
      refine jq 1 [(0, eS 6 eTask a0), (5, eS 1 vt v61), (6, vb v62), (7, vi v63), (8, .own 0 0 (((ix a0 v63).Needs).length))] [some (.row 1 (List.map vt ((ix a0 v63).Needs)))] ?_
      refine TriE.seqK h (fun (v68 : (List Str)) => St.mk [(0, eS 6 eTask a0), (5, eS 1 vt v61), (6, vb v62), (7, vi v63), (8, .own 0 0 v68.length)] [some (.row 1 (List.map vt v68))]) ?_ ?_
      · rintro v68 h
        refine sr [(0, eS 6 eTask a0), (5, eS 1 vt v61), (6, vb v62), (7, vi v63), (8, .own 0 0 v68.length), (10, vi 0)] [some (.row 1 (List.map vt v68))] ?_
        refine TriE.block ?_
        refine TriE.sees (S' := ⟨[(0, eS 6 eTask a0), (5, eS 1 vt v61), (6, vb v62), (7, vi v63), (8, .own 0 0 v68.length), (10, vi 0)], [some (.row 1 (List.map vt v68))]⟩) sy ?_
        refine TriE.loopN h (fun (t : (List Str) × Bool × Nat) => match t with | (v73, v74, v75) => St.mk [(0, eS 6 eTask a0), (5, eS 1 vt v73), (6, vb v74), (7, vi v63), (8, .own 0 0 v68.length), (10, vi v75)] [some (.row 1 (List.map vt v68))]) rfl ?_
        clear h
        rintro back ⟨v73, v74, v75⟩ h
        dsimp only [agrafferef08_ByFirst_L2] at h
        refine TriE.seq ?_
        refine sj ?_
        refine rn 3 [(0, eS 6 eTask a0), (5, eS 1 vt v73), (6, vb v74), (7, vi v63), (8, .own 0 0 v68.length), (10, vi v75), (57, vi v75), (59, vi (v68.length : Int))] [some (.row 1 (List.map vt v68))] ?_
        refine jv (vb (decide (v75 < v68.length))) (cy (I0 60 (.bin .lss false (.t 57) (.t 59)))) (n_lss (i := v75) (j := v68.length) rfl rfl) rfl ?_
        refine jp [(0, eS 6 eTask a0), (5, eS 1 vt v73), (6, vb v74), (7, vi v63), (8, .own 0 0 v68.length), (10, vi v75), (60, vb (decide (v75 < v68.length)))] ?_
        refine TriE.cond (b := decide (v75 < v68.length)) rfl (fun c9 => ?_) (fun c9 => ?_)
        · have h := cond_t h c9
          refine TriE.skip ?_
          refine TriE.seqK h (fun (t : (List Str) × Bool) => match t with | (v78, v79) => St.mk [(0, eS 6 eTask a0), (7, vi v63), (8, .own 0 0 v68.length), (10, vi v75), (5, eS 1 vt v78), (6, vb v79)] [some (.row 1 (List.map vt v68))]) ?_ ?_
          · rintro ⟨v78, v79⟩ h
            refine TriE.regJ ?_
            refine rn 1 [(0, eS 6 eTask a0), (7, vi v63), (8, .own 0 0 v68.length), (5, eS 1 vt v78), (6, vb v79), (61, vi v75)] [some (.row 1 (List.map vt v68))] ?_
            obtain ⟨c11, h⟩ := chk_some h
            refine jv (vi ((v75 + 1 : Nat) : Int)) (cy (I0 62 (.bin .add false (.t 61) (.c (.p (.int .i64 1)))))) (r_addn (i := v75) (j := 1) rfl rfl c11) rfl ?_
            refine jq 1 [(0, eS 6 eTask a0), (7, vi v63), (8, .own 0 0 v68.length), (5, eS 1 vt v78), (6, vb v79), (10, vi ((v75 + 1 : Nat) : Int))] [some (.row 1 (List.map vt v68))] ?_
            exact Vs.intro sy ⟨(v78, v79, v75 + 1), rfl, h⟩
          intro k2 h
          refine TriE.block ?_
          refine sj ?_
          refine rn 3 [(0, eS 6 eTask a0), (5, eS 1 vt v73), (6, vb v74), (7, vi v63), (8, .own 0 0 v68.length), (10, vi v75), (63, eS 1 vt v73), (64, .own 0 0 v68.length), (65, vi v75)] [some (.row 1 (List.map vt v68))] ?_
          refine jv (.ptr 0 v75 0) (cy (I0 66 (.iaddr 1 (.t 64) (.t 65)))) (ok_iaddr_o0 (j := v75) rfl rfl rfl rfl c9) rfl ?_
          refine jv (vt (ix v68 v75)) (cy (I0 67 (.load false 1 (.t 66)))) (ok_load_pm (l := v68) (e := vt) (v := vt (ix v68 v75)) rfl rfl c9 rfl) rfl ?_
          obtain ⟨y76, hy76, h⟩ := bind_some h
          refine RegJ.op (Op1.call (y' := vb y76) (obx := []) (oby := []) (ob2 := [some (.row 1 (List.map vt v68))]) _ _ (cy (I0 68 (.call 81 [(.t 63), (.t 67)]))) rfl (agraffebase_HasText_ok n v73 (ix v68 v75) y76 hy76) [] (by kernel_rfl) (.cons rfl (.cons rfl (.cons rfl .nil))) (by kernel_rfl) (by kernel_rfl) ObsRen.nil (by kernel_rfl) ObsRen.nil (by kernel_rfl)) ?_
          refine jq 1 [(0, eS 6 eTask a0), (5, eS 1 vt v73), (6, vb v74), (7, vi v63), (8, .own 0 0 v68.length), (10, vi v75), (69, vb (!y76))] [some (.row 1 (List.map vt v68))] ?_
          refine TriE.cond (b := !y76) rfl (fun c10 => ?_) (fun c10 => ?_)
          · have h := cond_t h c10
            refine sj ?_
            refine rn 3 [(0, eS 6 eTask a0), (7, vi v63), (8, .own 0 0 v68.length), (10, vi v75), (70, eS 1 vt v73), (71, .own 0 0 v68.length), (72, vi v75)] [some (.row 1 (List.map vt v68))] ?_
            refine jv (.ptr 0 v75 0) (cy (I0 73 (.iaddr 1 (.t 71) (.t 72)))) (ok_iaddr_o0 (j := v75) rfl rfl rfl rfl c9) rfl ?_
            refine jv (vt (ix v68 v75)) (cy (I0 74 (.load false 1 (.t 73)))) (ok_load_pm (l := v68) (e := vt) (v := vt (ix v68 v75)) rfl rfl c9 rfl) rfl ?_
            obtain ⟨y77, hy77, h⟩ := bind_some h
            refine RegJ.op (Op1.call (y' := eS 1 vt y77) (obx := []) (oby := []) (ob2 := [some (.row 1 (List.map vt v68))]) _ _ (cy (I0 75 (.call 105 [(.t 70), (.t 74)]))) rfl (agrafferef08_Put_ok n v73 (ix v68 v75) y77 hy77) [] (by kernel_rfl) (.cons rfl (.cons rfl (.cons rfl .nil))) (by kernel_rfl) (by kernel_rfl) ObsRen.nil (by kernel_rfl) ObsRen.nil (by kernel_rfl)) ?_
            refine jq 1 [(0, eS 6 eTask a0), (7, vi v63), (8, .own 0 0 v68.length), (10, vi v75), (5, eS 1 vt y77)] [some (.row 1 (List.map vt v68))] ?_
            refine tr [(0, eS 6 eTask a0), (7, vi v63), (8, .own 0 0 v68.length), (10, vi v75), (5, eS 1 vt y77), (6, vb true)] [some (.row 1 (List.map vt v68))] ?_
            exact Vs.intro Sees.refl ⟨(y77, true), rfl, h⟩
          have h := cond_f h c10
          refine TriE.skip ?_
          exact Vs.intro sy ⟨(v73, v74), rfl, h⟩
        have h := cond_f h c9
        refine TriE.exit ?_
        exact Vs.intro (sc [] (by decide) (by kernel_rfl) ObRen.nil rfl rfl) ⟨(v73, v74), rfl, h⟩
      intro k1 h
      refine sr [(0, eS 6 eTask a0), (5, eS 1 vt v61), (6, vb v62), (7, vi v63), (8, .own 0 0 (((ix a0 v63).Needs).length)), (9, vi 0)] [some (.row 1 (List.map vt ((ix a0 v63).Needs)))] ?_
      refine TriE.block ?_
      refine TriE.sees (S' := ⟨[(0, eS 6 eTask a0), (5, eS 1 vt v61), (6, vb v62), (7, vi v63), (8, .own 0 0 ((ix a0 v63).Needs).length), (9, vi 0)], [some (.row 1 (List.map vt ((ix a0 v63).Needs)))]⟩) sy ?_
      refine TriE.loopN h (fun (t : Nat × (List Str)) => match t with | (v66, v67) => St.mk [(0, eS 6 eTask a0), (5, eS 1 vt v61), (6, vb v62), (7, vi v63), (8, .own 0 0 v67.length), (9, vi v66)] [some (.row 1 (List.map vt v67))]) rfl ?_
      clear h
      rintro back ⟨v66, v67⟩ h
      dsimp only [agrafferef08_ByFirst_L1] at h
      refine TriE.seq ?_
      refine sj ?_
      refine rn 3 [(0, eS 6 eTask a0), (5, eS 1 vt v61), (6, vb v62), (7, vi v63), (8, .own 0 0 v67.length), (9, vi v66), (34, vi v66), (35, eS 6 eTask a0), (36, vi v63)] [some (.row 1 (List.map vt v67))] ?_
      refine jv (.fptr 6 (List.map eTask a0) v63 0) (cy (I0 37 (.iaddr 6 (.t 35) (.t 36)))) (ok_iaddr_m (j := v63) rfl rfl rfl c2) rfl ?_
      refine rn 1 [(0, eS 6 eTask a0), (5, eS 1 vt v61), (6, vb v62), (7, vi v63), (8, .own 0 0 v67.length), (9, vi v66), (34, vi v66), (38, .fptr 6 (List.map eTask a0) v63 4)] [some (.row 1 (List.map vt v67))] ?_
      refine jv (eS 1 (eS 1 vt) ((ix a0 v63).OneOf)) (cy (I0 39 (.load false 1 (.t 38)))) (ok_load_fm (v := eS 1 (eS 1 vt) ((ix a0 v63).OneOf)) rfl c2 rfl) rfl ?_
      refine jv (vi ((((ix a0 v63).OneOf).length : Nat) : Int)) (cy (I0 40 (.len 0 (.t 39)))) (ok_len_m rfl) rfl ?_
      refine jv (vb (decide (v66 < (((ix a0 v63).OneOf).length)))) (cy (I0 41 (.bin .lss false (.t 34) (.t 40)))) (n_lss (i := v66) (j := ((ix a0 v63).OneOf).length) rfl rfl) rfl ?_
      refine jp [(0, eS 6 eTask a0), (5, eS 1 vt v61), (6, vb v62), (7, vi v63), (8, .own 0 0 v67.length), (9, vi v66), (41, vb (decide (v66 < (((ix a0 v63).OneOf).length))))] ?_
      refine TriE.cond (b := decide (v66 < (((ix a0 v63).OneOf).length))) rfl (fun c4 => ?_) (fun c4 => ?_)
      · have h := cond_t h c4
        refine TriE.skip ?_
        refine TriE.seq ?_
        refine TriE.block ?_
        refine TriE.regJ ?_
        refine rn 3 [(0, eS 6 eTask a0), (5, eS 1 vt v61), (6, vb v62), (7, vi v63), (9, vi v66), (44, .own 0 0 v67.length), (45, eS 6 eTask a0), (46, vi v63)] [some (.row 1 (List.map vt v67))] ?_
        refine jv (.fptr 6 (List.map eTask a0) v63 0) (cy (I0 47 (.iaddr 6 (.t 45) (.t 46)))) (ok_iaddr_m (j := v63) rfl rfl rfl c2) rfl ?_
        refine rn 1 [(0, eS 6 eTask a0), (5, eS 1 vt v61), (6, vb v62), (7, vi v63), (9, vi v66), (44, .own 0 0 v67.length), (48, .fptr 6 (List.map eTask a0) v63 4)] [some (.row 1 (List.map vt v67))] ?_
        refine jv (eS 1 (eS 1 vt) ((ix a0 v63).OneOf)) (cy (I0 49 (.load false 1 (.t 48)))) (ok_load_fm (v := eS 1 (eS 1 vt) ((ix a0 v63).OneOf)) rfl c2 rfl) rfl ?_
        refine rn 1 [(0, eS 6 eTask a0), (5, eS 1 vt v61), (6, vb v62), (7, vi v63), (9, vi v66), (44, .own 0 0 v67.length), (49, eS 1 (eS 1 vt) ((ix a0 v63).OneOf)), (50, vi v66)] [some (.row 1 (List.map vt v67))] ?_
        obtain ⟨c5, h⟩ := chk_some h
        refine jv (.fptr 1 (List.map (eS 1 vt) ((ix a0 v63).OneOf)) v66 0) (cy (I0 51 (.iaddr 1 (.t 49) (.t 50)))) (ok_iaddr_m (j := v66) rfl rfl rfl c5) rfl ?_
        refine jv (eS 1 vt (ix ((ix a0 v63).OneOf) v66)) (cy (I0 52 (.load false 1 (.t 51)))) (ok_load_fm (v := eS 1 vt (ix ((ix a0 v63).OneOf) v66)) rfl c5 rfl) rfl ?_
        obtain ⟨c6, h⟩ := chk_some h
        refine jv (.fptr 1 (List.map vt (ix ((ix a0 v63).OneOf) v66)) 0 0) (cy (I0 53 (.iaddr 1 (.t 52) (.c (.p (.int .i64 0)))))) (ok_iaddr_m (j := 0) rfl rfl rfl c6) rfl ?_
        refine jv (vt (ix (ix ((ix a0 v63).OneOf) v66) 0)) (cy (I0 54 (.load false 1 (.t 53)))) (ok_load_fm (v := vt (ix (ix ((ix a0 v63).OneOf) v66) 0)) rfl c6 rfl) rfl ?_
        refine rn 1 [(0, eS 6 eTask a0), (5, eS 1 vt v61), (6, vb v62), (7, vi v63), (9, vi v66), (44, .own 0 0 v67.length), (55, .own 1 0 1)] [some (.row 1 (List.map vt v67)), some (.row 1 [vt (ix (ix ((ix a0 v63).OneOf) v66) 0)])] ?_
        obtain ⟨c7, h⟩ := chk_some h
        refine je (.own 2 0 ((v67 ++ ([(ix (ix ((ix a0 v63).OneOf) v66) 0)] : List Str)).length)) [none, some (.row 1 [vt (ix (ix ((ix a0 v63).OneOf) v66) 0)]), some (.row 1 (List.map vt (v67 ++ ([(ix (ix ((ix a0 v63).OneOf) v66) 0)] : List Str))))] (cy (I0 56 (.app 1 16 (.t 44) (.t 55)))) (ok_app_own (l := v67) (l2 := ([(ix (ix ((ix a0 v63).OneOf) v66) 0)] : List Str)) (e := vt) (u := .own 1 0 1) rfl rfl rfl rfl rfl c7) rfl rfl rfl ?_
        refine jq 1 [(0, eS 6 eTask a0), (5, eS 1 vt v61), (6, vb v62), (7, vi v63), (9, vi v66), (8, .own 2 0 ((v67 ++ ([(ix (ix ((ix a0 v63).OneOf) v66) 0)] : List Str)).length))] [none, some (.row 1 [vt (ix (ix ((ix a0 v63).OneOf) v66) 0)]), some (.row 1 (List.map vt (v67 ++ ([(ix (ix ((ix a0 v63).OneOf) v66) 0)] : List Str))))] ?_
        refine TriE.regJ ?_
        refine rn 1 [(0, eS 6 eTask a0), (5, eS 1 vt v61), (6, vb v62), (7, vi v63), (8, .own 2 0 ((v67 ++ ([(ix (ix ((ix a0 v63).OneOf) v66) 0)] : List Str)).length)), (42, vi v66)] [none, some (.row 1 [vt (ix (ix ((ix a0 v63).OneOf) v66) 0)]), some (.row 1 (List.map vt (v67 ++ ([(ix (ix ((ix a0 v63).OneOf) v66) 0)] : List Str))))] ?_
        obtain ⟨c8, h⟩ := chk_some h
        refine jv (vi ((v66 + 1 : Nat) : Int)) (cy (I0 43 (.bin .add false (.t 42) (.c (.p (.int .i64 1)))))) (r_addn (i := v66) (j := 1) rfl rfl c8) rfl ?_
        refine jq 1 [(0, eS 6 eTask a0), (5, eS 1 vt v61), (6, vb v62), (7, vi v63), (8, .own 2 0 ((v67 ++ ([(ix (ix ((ix a0 v63).OneOf) v66) 0)] : List Str)).length)), (9, vi ((v66 + 1 : Nat) : Int))] [none, some (.row 1 [vt (ix (ix ((ix a0 v63).OneOf) v66) 0)]), some (.row 1 (List.map vt (v67 ++ ([(ix (ix ((ix a0 v63).OneOf) v66) 0)] : List Str))))] ?_
        exact Vs.intro (sc [2] (by decide) (by kernel_rfl) (obRen_row vt_frz rfl .nil) rfl rfl) ⟨(v66 + 1, (v67 ++ ([(ix (ix ((ix a0 v63).OneOf) v66) 0)] : List Str))), rfl, h⟩
      have h := cond_f h c4
      refine TriE.exit ?_
      exact Vs.intro sy ⟨v67, rfl, h⟩
    have h := cond_f h c2
    refine TriE.exit ?_
    exact Vs.intro sy ⟨(v61, v62), rfl, h⟩
  have h := cond_f h c1
  refine TriE.exit ?_
  exact Vs.intro sy ⟨v41, rfl, h⟩
theorem agraffebase_Texts_ok (n : Nat) (a0 : List Str) (a1 : List Str) (r : Bool) (h : agraffebase_Texts n a0 a1 = some r) : FnL Tryz.prog 39 [eS 1 vt a0, eS 1 vt a1] [] (vb r) [] := by
  dsimp only [agraffebase_Texts] at h
  refine FnL.ofS (ts := [4]) Tryz.call39 Tryz.func39 rfl rfl (Nat.le_of_ble_eq_true rfl) (Nat.le_of_ble_eq_true rfl) (fun j h => absurd h (Nat.not_lt_zero j)) ?_
  refine sr [(0, eS 1 vt a0), (1, eS 1 vt a1)] [] ?_
  refine TriE.seq ?_
  refine sj ?_
  refine rn 1 [(0, eS 1 vt a0), (1, eS 1 vt a1), (6, eS 1 vt a0)] [] ?_
  refine jv (vi (a0.length : Int)) (cy (I0 7 (.len 0 (.t 6)))) (ok_len_m rfl) rfl ?_
  refine rn 1 [(0, eS 1 vt a0), (1, eS 1 vt a1), (7, vi (a0.length : Int)), (8, eS 1 vt a1)] [] ?_
  refine jv (vi (a1.length : Int)) (cy (I0 9 (.len 0 (.t 8)))) (ok_len_m rfl) rfl ?_
  refine jv (vb (!decide (a0.length = a1.length))) (cy (I0 10 (.bin .neq false (.t 7) (.t 9)))) (n_neq (i := a0.length) (j := a1.length) rfl rfl) rfl ?_
  refine jp [(0, eS 1 vt a0), (1, eS 1 vt a1), (10, vb (!decide (a0.length = a1.length)))] ?_
  refine TriE.cond (b := !decide (a0.length = a1.length)) rfl (fun c1 => ?_) (fun c1 => ?_)
  · have h := cond_t h c1
    refine sr [(4, vb false)] [] ?_
    refine TriE.ret ?_
    have h := Option.some.inj h
    subst h
    exact DoneS.ret (S' := ⟨[(4, vb false)], []⟩) Sees.refl rfl rfl
  have h := cond_f h c1
  refine TriE.skip ?_
  refine TriE.seqK h (fun (_ : Unit) => St.mk [] []) ?_ ?_
  · rintro ⟨⟩ h
    refine sr [(4, vb true)] [] ?_
    refine TriE.ret ?_
    have h := Option.some.inj h
    subst h
    exact DoneS.ret (S' := ⟨[(4, vb true)], []⟩) Sees.refl rfl rfl
  intro k1 h
  refine sr [(0, eS 1 vt a0), (1, eS 1 vt a1), (5, vi 0)] [] ?_
  refine TriE.block ?_
  refine TriE.sees (S' := ⟨[(0, eS 1 vt a0), (1, eS 1 vt a1), (5, vi 0)], []⟩) sy ?_
  refine TriE.loopN h (fun (v1 : Nat) => St.mk [(0, eS 1 vt a0), (1, eS 1 vt a1), (5, vi v1)] []) rfl ?_
  clear h
  rintro back v1 h
  dsimp only [agraffebase_Texts_L1] at h
  refine TriE.seq ?_
  refine sj ?_
  refine rn 2 [(0, eS 1 vt a0), (1, eS 1 vt a1), (5, vi v1), (11, vi v1), (12, eS 1 vt a0)] [] ?_
  refine jv (vi (a0.length : Int)) (cy (I0 13 (.len 0 (.t 12)))) (ok_len_m rfl) rfl ?_
  refine jv (vb (decide (v1 < a0.length))) (cy (I0 14 (.bin .lss false (.t 11) (.t 13)))) (n_lss (i := v1) (j := a0.length) rfl rfl) rfl ?_
  refine jp [(0, eS 1 vt a0), (1, eS 1 vt a1), (5, vi v1), (14, vb (decide (v1 < a0.length)))] ?_
  refine TriE.cond (b := decide (v1 < a0.length)) rfl (fun c2 => ?_) (fun c2 => ?_)
  · have h := cond_t h c2
    refine TriE.skip ?_
    refine TriE.seq ?_
    refine TriE.block ?_
    refine TriE.seq ?_
    refine TriE.sees (Sees.less (fr' := [(0, eS 1 vt a0), (1, eS 1 vt a1), (5, vi v1)]) (.cons rfl (.cons rfl (.cons rfl .nil)))) ?_
    refine TriE.draw (by kernel_rfl) ?_
    refine RegD.run 2 [(18, vi v1), (17, eS 1 vt a0), (0, eS 1 vt a0), (1, eS 1 vt a1), (5, vi v1)] [none, none] (by kernel_rfl) ?_
    refine dv (.fptr 1 (List.map vt a0) v1 0) (cy (I0 19 (.iaddr 1 (.t 17) (.t 18)))) (ok_iaddr_m (j := v1) rfl rfl rfl c2) rfl ?_
    refine dv (vt (ix a0 v1)) (cy (I0 20 (.load false 1 (.t 19)))) (ok_load_fm (v := vt (ix a0 v1)) rfl c2 rfl) rfl ?_
    refine RegD.run 2 [(22, vi v1), (21, eS 1 vt a1), (20, vt (ix a0 v1)), (19, .fptr 1 (List.map vt a0) v1 0), (18, vi v1), (17, eS 1 vt a0), (0, eS 1 vt a0), (1, eS 1 vt a1), (5, vi v1)] [none, none, none, none, none, none] (by kernel_rfl) ?_
    obtain ⟨c3, h⟩ := chk_some h
    refine dv (.fptr 1 (List.map vt a1) v1 0) (cy (I0 23 (.iaddr 1 (.t 21) (.t 22)))) (ok_iaddr_m (j := v1) rfl rfl rfl c3) rfl ?_
    refine dv (vt (ix a1 v1)) (cy (I0 24 (.load false 1 (.t 23)))) (ok_load_fm (v := vt (ix a1 v1)) rfl c3 rfl) rfl ?_
    refine RegD.run 1 [(25, vb (!((ix a0 v1) == (ix a1 v1)))), (24, vt (ix a1 v1)), (23, .fptr 1 (List.map vt a1) v1 0), (22, vi v1), (21, eS 1 vt a1), (20, vt (ix a0 v1)), (19, .fptr 1 (List.map vt a0) v1 0), (18, vi v1), (17, eS 1 vt a0), (0, eS 1 vt a0), (1, eS 1 vt a1), (5, vi v1)] [none, none, none, none, none, none, none, none, none] (by kernel_rfl) ?_
    refine RegD.done rfl (by kernel_rfl) (S' := ⟨[(0, eS 1 vt a0), (1, eS 1 vt a1), (5, vi v1), (25, vb (!((ix a0 v1) == (ix a1 v1))))], []⟩) (sc [] (by decide) (by kernel_rfl) ObRen.nil rfl rfl) ?_
    refine TriE.cond (b := !((ix a0 v1) == (ix a1 v1))) rfl (fun c4 => ?_) (fun c4 => ?_)
    · have h := cond_t h c4
      refine sr [(4, vb false)] [] ?_
      refine TriE.ret ?_
      have h := Option.some.inj h
      subst h
      exact DoneS.ret (S' := ⟨[(4, vb false)], []⟩) Sees.refl rfl rfl
    have h := cond_f h c4
    refine TriE.skip ?_
    refine TriE.regJ ?_
    refine rn 1 [(0, eS 1 vt a0), (1, eS 1 vt a1), (15, vi v1)] [] ?_
    obtain ⟨c5, h⟩ := chk_some h
    refine jv (vi ((v1 + 1 : Nat) : Int)) (cy (I0 16 (.bin .add false (.t 15) (.c (.p (.int .i64 1)))))) (r_addn (i := v1) (j := 1) rfl rfl c5) rfl ?_
    refine jq 1 [(0, eS 1 vt a0), (1, eS 1 vt a1), (5, vi ((v1 + 1 : Nat) : Int))] [] ?_
    exact Vs.intro sy ⟨(v1 + 1), rfl, h⟩
  have h := cond_f h c2
  refine TriE.exit ?_
  exact Vs.intro sy ⟨(), rfl, h⟩
theorem agrafferef08_all_ok (n : Nat) (a0 : List Str) (a1 : List Str) (r : Bool) (h : agrafferef08_all n a0 a1 = some r) : FnL Tryz.prog 121 [eS 1 vt a0, eS 1 vt a1] [] (vb r) [] := by
  dsimp only [agrafferef08_all] at h
  refine FnL.ofS (ts := [4]) Tryz.call121 Tryz.func121 rfl rfl (Nat.le_of_ble_eq_true rfl) (Nat.le_of_ble_eq_true rfl) (fun j h => absurd h (Nat.not_lt_zero j)) ?_
  refine sr [(0, eS 1 vt a0), (1, eS 1 vt a1)] [] ?_
  refine TriE.seqK h (fun (_ : Unit) => St.mk [] []) ?_ ?_
  · rintro ⟨⟩ h
    refine sr [(4, vb true)] [] ?_
    refine TriE.ret ?_
    have h := Option.some.inj h
    subst h
    exact DoneS.ret (S' := ⟨[(4, vb true)], []⟩) Sees.refl rfl rfl
  intro k1 h
  refine sr [(0, eS 1 vt a0), (1, eS 1 vt a1), (5, vi 0)] [] ?_
  refine TriE.block ?_
  refine TriE.sees (S' := ⟨[(0, eS 1 vt a0), (1, eS 1 vt a1), (5, vi 0)], []⟩) sy ?_
  refine TriE.loopN h (fun (v2 : Nat) => St.mk [(0, eS 1 vt a0), (1, eS 1 vt a1), (5, vi v2)] []) rfl ?_
  clear h
  rintro back v2 h
  dsimp only [agrafferef08_all_L1] at h
  refine TriE.seq ?_
  refine sj ?_
  refine rn 2 [(0, eS 1 vt a0), (1, eS 1 vt a1), (5, vi v2), (6, vi v2), (7, eS 1 vt a0)] [] ?_
  refine jv (vi (a0.length : Int)) (cy (I0 8 (.len 0 (.t 7)))) (ok_len_m rfl) rfl ?_
  refine jv (vb (decide (v2 < a0.length))) (cy (I0 9 (.bin .lss false (.t 6) (.t 8)))) (n_lss (i := v2) (j := a0.length) rfl rfl) rfl ?_
  refine jp [(0, eS 1 vt a0), (1, eS 1 vt a1), (5, vi v2), (9, vb (decide (v2 < a0.length)))] ?_
  refine TriE.cond (b := decide (v2 < a0.length)) rfl (fun c1 => ?_) (fun c1 => ?_)
  · have h := cond_t h c1
    refine TriE.skip ?_
    refine TriE.seq ?_
    refine TriE.block ?_
    refine sj ?_
    refine rn 3 [(0, eS 1 vt a0), (1, eS 1 vt a1), (5, vi v2), (12, eS 1 vt a1), (13, eS 1 vt a0), (14, vi v2)] [] ?_
    refine jv (.fptr 1 (List.map vt a0) v2 0) (cy (I0 15 (.iaddr 1 (.t 13) (.t 14)))) (ok_iaddr_m (j := v2) rfl rfl rfl c1) rfl ?_
    refine jv (vt (ix a0 v2)) (cy (I0 16 (.load false 1 (.t 15)))) (ok_load_fm (v := vt (ix a0 v2)) rfl c1 rfl) rfl ?_
    obtain ⟨y3, hy3, h⟩ := bind_some h
    refine RegJ.op (Op1.call (y' := vb y3) (obx := []) (oby := []) (ob2 := []) _ _ (cy (I0 17 (.call 81 [(.t 12), (.t 16)]))) rfl (agraffebase_HasText_ok n a1 (ix a0 v2) y3 hy3) [] (by kernel_rfl) (.cons rfl (.cons rfl (.cons rfl .nil))) (by kernel_rfl) (by kernel_rfl) ObsRen.nil (by kernel_rfl) ObsRen.nil (by kernel_rfl)) ?_
    refine jq 1 [(0, eS 1 vt a0), (1, eS 1 vt a1), (5, vi v2), (18, vb (!y3))] [] ?_
    refine TriE.cond (b := !y3) rfl (fun c2 => ?_) (fun c2 => ?_)
    · have h := cond_t h c2
      refine sr [(4, vb false)] [] ?_
      refine TriE.ret ?_
      have h := Option.some.inj h
      subst h
      exact DoneS.ret (S' := ⟨[(4, vb false)], []⟩) Sees.refl rfl rfl
    have h := cond_f h c2
    refine TriE.skip ?_
    refine TriE.regJ ?_
    refine rn 1 [(0, eS 1 vt a0), (1, eS 1 vt a1), (10, vi v2)] [] ?_
    obtain ⟨c3, h⟩ := chk_some h
    refine jv (vi ((v2 + 1 : Nat) : Int)) (cy (I0 11 (.bin .add false (.t 10) (.c (.p (.int .i64 1)))))) (r_addn (i := v2) (j := 1) rfl rfl c3) rfl ?_
    refine jq 1 [(0, eS 1 vt a0), (1, eS 1 vt a1), (5, vi ((v2 + 1 : Nat) : Int))] [] ?_
    exact Vs.intro sy ⟨(v2 + 1), rfl, h⟩
  have h := cond_f h c1
  refine TriE.exit ?_
  exact Vs.intro sy ⟨(), rfl, h⟩
theorem agrafferef08_some_ok (n : Nat) (a0 : List Str) (a1 : List Str) (r : Bool) (h : agrafferef08_some n a0 a1 = some r) : FnL Tryz.prog 122 [eS 1 vt a0, eS 1 vt a1] [] (vb r) [] := by
  dsimp only [agrafferef08_some] at h
  refine FnL.ofS (ts := [4]) Tryz.call122 Tryz.func122 rfl rfl (Nat.le_of_ble_eq_true rfl) (Nat.le_of_ble_eq_true rfl) (fun j h => absurd h (Nat.not_lt_zero j)) ?_
  refine sr [(0, eS 1 vt a0), (1, eS 1 vt a1)] [] ?_
  refine TriE.seqK h (fun (_ : Unit) => St.mk [] []) ?_ ?_
  · rintro ⟨⟩ h
    refine sr [(4, vb false)] [] ?_
    refine TriE.ret ?_
    have h := Option.some.inj h
    subst h
    exact DoneS.ret (S' := ⟨[(4, vb false)], []⟩) Sees.refl rfl rfl
  intro k1 h
  refine sr [(0, eS 1 vt a0), (1, eS 1 vt a1), (5, vi 0)] [] ?_
  refine TriE.block ?_
  refine TriE.sees (S' := ⟨[(0, eS 1 vt a0), (1, eS 1 vt a1), (5, vi 0)], []⟩) sy ?_
  refine TriE.loopN h (fun (v2 : Nat) => St.mk [(0, eS 1 vt a0), (1, eS 1 vt a1), (5, vi v2)] []) rfl ?_
  clear h
  rintro back v2 h
  dsimp only [agrafferef08_some_L1] at h
  refine TriE.seq ?_
  refine sj ?_
  refine rn 2 [(0, eS 1 vt a0), (1, eS 1 vt a1), (5, vi v2), (6, vi v2), (7, eS 1 vt a0)] [] ?_
  refine jv (vi (a0.length : Int)) (cy (I0 8 (.len 0 (.t 7)))) (ok_len_m rfl) rfl ?_
  refine jv (vb (decide (v2 < a0.length))) (cy (I0 9 (.bin .lss false (.t 6) (.t 8)))) (n_lss (i := v2) (j := a0.length) rfl rfl) rfl ?_
  refine jp [(0, eS 1 vt a0), (1, eS 1 vt a1), (5, vi v2), (9, vb (decide (v2 < a0.length)))] ?_
  refine TriE.cond (b := decide (v2 < a0.length)) rfl (fun c1 => ?_) (fun c1 => ?_)
  · have h := cond_t h c1
    refine TriE.skip ?_
    refine TriE.seq ?_
    refine TriE.block ?_
    refine sj ?_
    refine rn 3 [(0, eS 1 vt a0), (1, eS 1 vt a1), (5, vi v2), (12, eS 1 vt a1), (13, eS 1 vt a0), (14, vi v2)] [] ?_
    refine jv (.fptr 1 (List.map vt a0) v2 0) (cy (I0 15 (.iaddr 1 (.t 13) (.t 14)))) (ok_iaddr_m (j := v2) rfl rfl rfl c1) rfl ?_
    refine jv (vt (ix a0 v2)) (cy (I0 16 (.load false 1 (.t 15)))) (ok_load_fm (v := vt (ix a0 v2)) rfl c1 rfl) rfl ?_
    obtain ⟨y3, hy3, h⟩ := bind_some h
    refine RegJ.op (Op1.call (y' := vb y3) (obx := []) (oby := []) (ob2 := []) _ _ (cy (I0 17 (.call 81 [(.t 12), (.t 16)]))) rfl (agraffebase_HasText_ok n a1 (ix a0 v2) y3 hy3) [] (by kernel_rfl) (.cons rfl (.cons rfl (.cons rfl .nil))) (by kernel_rfl) (by kernel_rfl) ObsRen.nil (by kernel_rfl) ObsRen.nil (by kernel_rfl)) ?_
    refine jp [(0, eS 1 vt a0), (1, eS 1 vt a1), (5, vi v2), (17, vb y3)] ?_
    refine TriE.cond (b := y3) rfl (fun c2 => ?_) (fun c2 => ?_)
    · have h := cond_t h c2
      refine sr [(4, vb true)] [] ?_
      refine TriE.ret ?_
      have h := Option.some.inj h
      subst h
      exact DoneS.ret (S' := ⟨[(4, vb true)], []⟩) Sees.refl rfl rfl
    have h := cond_f h c2
    refine TriE.skip ?_
    refine TriE.regJ ?_
    refine rn 1 [(0, eS 1 vt a0), (1, eS 1 vt a1), (10, vi v2)] [] ?_
    obtain ⟨c3, h⟩ := chk_some h
    refine jv (vi ((v2 + 1 : Nat) : Int)) (cy (I0 11 (.bin .add false (.t 10) (.c (.p (.int .i64 1)))))) (r_addn (i := v2) (j := 1) rfl rfl c3) rfl ?_
    refine jq 1 [(0, eS 1 vt a0), (1, eS 1 vt a1), (5, vi ((v2 + 1 : Nat) : Int))] [] ?_
    exact Vs.intro sy ⟨(v2 + 1), rfl, h⟩
  have h := cond_f h c1
  refine TriE.exit ?_
  exact Vs.intro sy ⟨(), rfl, h⟩
theorem agrafferef08_Closure_ok (n : Nat) (a0 : List Task) (a1 : List Str) (a2 : List Str) (r : Int) (h : agrafferef08_Closure n a0 a1 a2 = some r) : FnL Tryz.prog 56 [eS 6 eTask a0, eS 1 vt a1, eS 1 vt a2] [] (vi r) [] := by
  dsimp only [agrafferef08_Closure] at h
  refine FnL.ofS (ts := [6]) Tryz.call56 Tryz.func56 rfl rfl (Nat.le_of_ble_eq_true rfl) (Nat.le_of_ble_eq_true rfl) (fun j h => absurd h (Nat.not_lt_zero j)) ?_
  refine sr [(0, eS 6 eTask a0), (1, eS 1 vt a1), (2, eS 1 vt a2)] [] ?_
  refine TriE.seq ?_
  refine sj ?_
  refine rn 2 [(0, eS 6 eTask a0), (2, eS 1 vt a2), (11, eS 1 vt a1), (12, eS 1 vt a2)] [] ?_
  obtain ⟨y1, hy1, h⟩ := bind_some h
  refine RegJ.op (Op1.call (y' := vb y1) (obx := []) (oby := []) (ob2 := []) _ _ (cy (I0 13 (.call 121 [(.t 11), (.t 12)]))) rfl (agrafferef08_all_ok n a1 a2 y1 hy1) [] (by kernel_rfl) (.cons rfl (.cons rfl (.cons rfl .nil))) (by kernel_rfl) (by kernel_rfl) ObsRen.nil (by kernel_rfl) ObsRen.nil (by kernel_rfl)) ?_
  refine jq 1 [(0, eS 6 eTask a0), (2, eS 1 vt a2), (14, vb (!y1))] [] ?_
  refine TriE.cond (b := !y1) rfl (fun c1 => ?_) (fun c1 => ?_)
  · have h := cond_t h c1
    refine sr [(6, vi 14)] [] ?_
    refine TriE.ret ?_
    have h := Option.some.inj h
    subst h
    exact DoneS.ret (S' := ⟨[(6, vi 14)], []⟩) Sees.refl rfl rfl
  have h := cond_f h c1
  refine TriE.skip ?_
  refine TriE.seqK h (fun (_ : Unit) => St.mk [(0, eS 6 eTask a0), (2, eS 1 vt a2)] []) ?_ ?_
  · rintro ⟨⟩ h
    refine TriE.seqK h (fun (_ : Unit) => St.mk [] []) ?_ ?_
    · rintro ⟨⟩ h
      refine sr [(6, vi 0)] [] ?_
      refine TriE.ret ?_
      have h := Option.some.inj h
      subst h
      exact DoneS.ret (S' := ⟨[(6, vi 0)], []⟩) Sees.refl rfl rfl
    intro k3 h
    refine sr [(0, eS 6 eTask a0), (2, eS 1 vt a2), (8, vi 0)] [] ?_
    refine TriE.block ?_
    refine TriE.sees (S' := ⟨[(0, eS 6 eTask a0), (2, eS 1 vt a2), (8, vi 0)], []⟩) sy ?_
    refine TriE.loopN h (fun (v11 : Nat) => St.mk [(0, eS 6 eTask a0), (2, eS 1 vt a2), (8, vi v11)] []) rfl ?_
    clear h
    rintro back v11 h
    dsimp only [agrafferef08_Closure_L3] at h
    refine TriE.seq ?_
    refine sj ?_
    refine rn 2 [(0, eS 6 eTask a0), (2, eS 1 vt a2), (8, vi v11), (34, vi v11), (35, eS 1 vt a2)] [] ?_
    refine jv (vi (a2.length : Int)) (cy (I0 36 (.len 0 (.t 35)))) (ok_len_m rfl) rfl ?_
    refine jv (vb (decide (v11 < a2.length))) (cy (I0 37 (.bin .lss false (.t 34) (.t 36)))) (n_lss (i := v11) (j := a2.length) rfl rfl) rfl ?_
    refine jp [(0, eS 6 eTask a0), (2, eS 1 vt a2), (8, vi v11), (37, vb (decide (v11 < a2.length)))] ?_
    refine TriE.cond (b := decide (v11 < a2.length)) rfl (fun c7 => ?_) (fun c7 => ?_)
    · have h := cond_t h c7
      refine TriE.skip ?_
      refine TriE.seqK h (fun (_ : Unit) => St.mk [(0, eS 6 eTask a0), (2, eS 1 vt a2), (8, vi v11)] []) ?_ ?_
      · rintro ⟨⟩ h
        refine TriE.regJ ?_
        refine rn 1 [(0, eS 6 eTask a0), (2, eS 1 vt a2), (38, vi v11)] [] ?_
        obtain ⟨c14, h⟩ := chk_some h
        refine jv (vi ((v11 + 1 : Nat) : Int)) (cy (I0 39 (.bin .add false (.t 38) (.c (.p (.int .i64 1)))))) (r_addn (i := v11) (j := 1) rfl rfl c14) rfl ?_
        refine jq 1 [(0, eS 6 eTask a0), (2, eS 1 vt a2), (8, vi ((v11 + 1 : Nat) : Int))] [] ?_
        exact Vs.intro sy ⟨(v11 + 1), rfl, h⟩
      intro k2 h
      refine TriE.block ?_
      refine sj ?_
      refine rn 4 [(0, eS 6 eTask a0), (2, eS 1 vt a2), (8, vi v11), (40, eS 6 eTask a0), (41, eS 6 eTask a0), (42, eS 1 vt a2), (43, vi v11)] [] ?_
      refine jv (.fptr 1 (List.map vt a2) v11 0) (cy (I0 44 (.iaddr 1 (.t 42) (.t 43)))) (ok_iaddr_m (j := v11) rfl rfl rfl c7) rfl ?_
      refine jv (vt (ix a2 v11)) (cy (I0 45 (.load false 1 (.t 44)))) (ok_load_fm (v := vt (ix a2 v11)) rfl c7 rfl) rfl ?_
      obtain ⟨y12, hy12, h⟩ := bind_some h
      refine RegJ.op (Op1.call (y' := vi y12) (obx := []) (oby := []) (ob2 := []) _ _ (cy (I0 46 (.call 73 [(.t 41), (.t 45)]))) rfl (agrafferef08_Find_ok n a0 (ix a2 v11) y12 hy12) [] (by kernel_rfl) (.cons rfl (.cons rfl (.cons rfl .nil))) (by kernel_rfl) (by kernel_rfl) ObsRen.nil (by kernel_rfl) ObsRen.nil (by kernel_rfl)) ?_
      obtain ⟨c8, h⟩ := chk_some h
      refine jv (.fptr 6 (List.map eTask a0) y12.toNat 0) (cy (I0 47 (.iaddr 6 (.t 40) (.t 46)))) (ok_iaddr_m (j := y12.toNat) rfl rfl (inB_to c8) (inB_lt c8)) rfl ?_
      refine rn 1 [(0, eS 6 eTask a0), (2, eS 1 vt a2), (8, vi v11), (48, .fptr 6 (List.map eTask a0) y12.toNat 4)] [] ?_
      obtain ⟨c9, h⟩ := chk_some h
      refine jv (eS 1 (eS 1 vt) ((ix a0 y12.toNat).OneOf)) (cy (I0 49 (.load false 1 (.t 48)))) (ok_load_fm (v := eS 1 (eS 1 vt) ((ix a0 y12.toNat).OneOf)) rfl c9 rfl) rfl ?_
      refine jq 1 [(0, eS 6 eTask a0), (2, eS 1 vt a2), (8, vi v11), (9, eS 1 (eS 1 vt) ((ix a0 y12.toNat).OneOf))] [] ?_
      refine sr [(0, eS 6 eTask a0), (2, eS 1 vt a2), (8, vi v11), (9, eS 1 (eS 1 vt) ((ix a0 y12.toNat).OneOf)), (10, vi 0)] [] ?_
      refine TriE.block ?_
      refine TriE.sees (S' := ⟨[(0, eS 6 eTask a0), (2, eS 1 vt a2), (8, vi v11), (9, eS 1 (eS 1 vt) ((ix a0 y12.toNat).OneOf)), (10, vi 0)], []⟩) sy ?_
      refine TriE.loopN h (fun (v14 : Nat) => St.mk [(0, eS 6 eTask a0), (2, eS 1 vt a2), (8, vi v11), (9, eS 1 (eS 1 vt) ((ix a0 y12.toNat).OneOf)), (10, vi v14)] []) rfl ?_
      clear h
      rintro back v14 h
      dsimp only [agrafferef08_Closure_L2] at h
      refine TriE.seq ?_
      refine sj ?_
      refine rn 2 [(0, eS 6 eTask a0), (2, eS 1 vt a2), (8, vi v11), (9, eS 1 (eS 1 vt) ((ix a0 y12.toNat).OneOf)), (10, vi v14), (50, vi v14), (51, eS 1 (eS 1 vt) ((ix a0 y12.toNat).OneOf))] [] ?_
      refine jv (vi ((((ix a0 y12.toNat).OneOf).length : Nat) : Int)) (cy (I0 52 (.len 0 (.t 51)))) (ok_len_m rfl) rfl ?_
      refine jv (vb (decide (v14 < (((ix a0 y12.toNat).OneOf).length)))) (cy (I0 53 (.bin .lss false (.t 50) (.t 52)))) (n_lss (i := v14) (j := ((ix a0 y12.toNat).OneOf).length) rfl rfl) rfl ?_
      refine jp [(0, eS 6 eTask a0), (2, eS 1 vt a2), (8, vi v11), (9, eS 1 (eS 1 vt) ((ix a0 y12.toNat).OneOf)), (10, vi v14), (53, vb (decide (v14 < (((ix a0 y12.toNat).OneOf).length))))] ?_
      refine TriE.cond (b := decide (v14 < (((ix a0 y12.toNat).OneOf).length))) rfl (fun c10 => ?_) (fun c10 => ?_)
      · have h := cond_t h c10
        refine TriE.skip ?_
        refine TriE.seq ?_
        refine TriE.block ?_
        refine sj ?_
        refine rn 2 [(0, eS 6 eTask a0), (2, eS 1 vt a2), (8, vi v11), (9, eS 1 (eS 1 vt) ((ix a0 y12.toNat).OneOf)), (10, vi v14), (56, eS 1 (eS 1 vt) ((ix a0 y12.toNat).OneOf)), (57, vi v14)] [] ?_
        obtain ⟨c11, h⟩ := chk_some h
        refine jv (.fptr 1 (List.map (eS 1 vt) ((ix a0 y12.toNat).OneOf)) v14 0) (cy (I0 58 (.iaddr 1 (.t 56) (.t 57)))) (ok_iaddr_m (j := v14) rfl rfl rfl c11) rfl ?_
        refine jv (eS 1 vt (ix ((ix a0 y12.toNat).OneOf) v14)) (cy (I0 59 (.load false 1 (.t 58)))) (ok_load_fm (v := eS 1 vt (ix ((ix a0 y12.toNat).OneOf) v14)) rfl c11 rfl) rfl ?_
        refine rn 1 [(0, eS 6 eTask a0), (2, eS 1 vt a2), (8, vi v11), (9, eS 1 (eS 1 vt) ((ix a0 y12.toNat).OneOf)), (10, vi v14), (59, eS 1 vt (ix ((ix a0 y12.toNat).OneOf) v14)), (60, eS 1 vt a2)] [] ?_
        obtain ⟨y15, hy15, h⟩ := bind_some h
        refine RegJ.op (Op1.call (y' := vb y15) (obx := []) (oby := []) (ob2 := []) _ _ (cy (I0 61 (.call 122 [(.t 59), (.t 60)]))) rfl (agrafferef08_some_ok n (ix ((ix a0 y12.toNat).OneOf) v14) a2 y15 hy15) [] (by kernel_rfl) (.cons rfl (.cons rfl (.cons rfl .nil))) (by kernel_rfl) (by kernel_rfl) ObsRen.nil (by kernel_rfl) ObsRen.nil (by kernel_rfl)) ?_
        refine jq 1 [(0, eS 6 eTask a0), (2, eS 1 vt a2), (8, vi v11), (9, eS 1 (eS 1 vt) ((ix a0 y12.toNat).OneOf)), (10, vi v14), (62, vb (!y15))] [] ?_
        refine TriE.cond (b := !y15) rfl (fun c12 => ?_) (fun c12 => ?_)
        · have h := cond_t h c12
          refine sr [(6, vi 12)] [] ?_
          refine TriE.ret ?_
          have h := Option.some.inj h
          subst h
          exact DoneS.ret (S' := ⟨[(6, vi 12)], []⟩) Sees.refl rfl rfl
        have h := cond_f h c12
        refine TriE.skip ?_
        refine TriE.regJ ?_
        refine rn 1 [(0, eS 6 eTask a0), (2, eS 1 vt a2), (8, vi v11), (9, eS 1 (eS 1 vt) ((ix a0 y12.toNat).OneOf)), (54, vi v14)] [] ?_
        obtain ⟨c13, h⟩ := chk_some h
        refine jv (vi ((v14 + 1 : Nat) : Int)) (cy (I0 55 (.bin .add false (.t 54) (.c (.p (.int .i64 1)))))) (r_addn (i := v14) (j := 1) rfl rfl c13) rfl ?_
        refine jq 1 [(0, eS 6 eTask a0), (2, eS 1 vt a2), (8, vi v11), (9, eS 1 (eS 1 vt) ((ix a0 y12.toNat).OneOf)), (10, vi ((v14 + 1 : Nat) : Int))] [] ?_
        exact Vs.intro sy ⟨(v14 + 1), rfl, h⟩
      have h := cond_f h c10
      refine TriE.exit ?_
      exact Vs.intro sy ⟨(), rfl, h⟩
    have h := cond_f h c7
    refine TriE.exit ?_
    exact Vs.intro sy ⟨(), rfl, h⟩
  intro k1 h
  refine sr [(0, eS 6 eTask a0), (2, eS 1 vt a2), (7, vi 0)] [] ?_
  refine TriE.block ?_
  refine TriE.sees (S' := ⟨[(0, eS 6 eTask a0), (2, eS 1 vt a2), (7, vi 0)], []⟩) sy ?_
  refine TriE.loopN h (fun (v4 : Nat) => St.mk [(0, eS 6 eTask a0), (2, eS 1 vt a2), (7, vi v4)] []) rfl ?_
  clear h
  rintro back v4 h
  dsimp only [agrafferef08_Closure_L1] at h
  refine TriE.seq ?_
  refine sj ?_
  refine rn 2 [(0, eS 6 eTask a0), (2, eS 1 vt a2), (7, vi v4), (15, vi v4), (16, eS 1 vt a2)] [] ?_
  refine jv (vi (a2.length : Int)) (cy (I0 17 (.len 0 (.t 16)))) (ok_len_m rfl) rfl ?_
  refine jv (vb (decide (v4 < a2.length))) (cy (I0 18 (.bin .lss false (.t 15) (.t 17)))) (n_lss (i := v4) (j := a2.length) rfl rfl) rfl ?_
  refine jp [(0, eS 6 eTask a0), (2, eS 1 vt a2), (7, vi v4), (18, vb (decide (v4 < a2.length)))] ?_
  refine TriE.cond (b := decide (v4 < a2.length)) rfl (fun c2 => ?_) (fun c2 => ?_)
  · have h := cond_t h c2
    refine TriE.skip ?_
    refine TriE.seq ?_
    refine TriE.block ?_
    refine sj ?_
    refine rn 4 [(0, eS 6 eTask a0), (2, eS 1 vt a2), (7, vi v4), (21, eS 6 eTask a0), (22, eS 6 eTask a0), (23, eS 1 vt a2), (24, vi v4)] [] ?_
    refine jv (.fptr 1 (List.map vt a2) v4 0) (cy (I0 25 (.iaddr 1 (.t 23) (.t 24)))) (ok_iaddr_m (j := v4) rfl rfl rfl c2) rfl ?_
    refine jv (vt (ix a2 v4)) (cy (I0 26 (.load false 1 (.t 25)))) (ok_load_fm (v := vt (ix a2 v4)) rfl c2 rfl) rfl ?_
    obtain ⟨y5, hy5, h⟩ := bind_some h
    refine RegJ.op (Op1.call (y' := vi y5) (obx := []) (oby := []) (ob2 := []) _ _ (cy (I0 27 (.call 73 [(.t 22), (.t 26)]))) rfl (agrafferef08_Find_ok n a0 (ix a2 v4) y5 hy5) [] (by kernel_rfl) (.cons rfl (.cons rfl (.cons rfl .nil))) (by kernel_rfl) (by kernel_rfl) ObsRen.nil (by kernel_rfl) ObsRen.nil (by kernel_rfl)) ?_
    obtain ⟨c3, h⟩ := chk_some h
    refine jv (.fptr 6 (List.map eTask a0) y5.toNat 0) (cy (I0 28 (.iaddr 6 (.t 21) (.t 27)))) (ok_iaddr_m (j := y5.toNat) rfl rfl (inB_to c3) (inB_lt c3)) rfl ?_
    refine rn 1 [(0, eS 6 eTask a0), (2, eS 1 vt a2), (7, vi v4), (29, .fptr 6 (List.map eTask a0) y5.toNat 3)] [] ?_
    obtain ⟨c4, h⟩ := chk_some h
    refine jv (eS 1 vt ((ix a0 y5.toNat).Needs)) (cy (I0 30 (.load false 1 (.t 29)))) (ok_load_fm (v := eS 1 vt ((ix a0 y5.toNat).Needs)) rfl c4 rfl) rfl ?_
    refine rn 1 [(0, eS 6 eTask a0), (2, eS 1 vt a2), (7, vi v4), (30, eS 1 vt ((ix a0 y5.toNat).Needs)), (31, eS 1 vt a2)] [] ?_
    obtain ⟨y6, hy6, h⟩ := bind_some h
    refine RegJ.op (Op1.call (y' := vb y6) (obx := []) (oby := []) (ob2 := []) _ _ (cy (I0 32 (.call 121 [(.t 30), (.t 31)]))) rfl (agrafferef08_all_ok n ((ix a0 y5.toNat).Needs) a2 y6 hy6) [] (by kernel_rfl) (.cons rfl (.cons rfl (.cons rfl .nil))) (by kernel_rfl) (by kernel_rfl) ObsRen.nil (by kernel_rfl) ObsRen.nil (by kernel_rfl)) ?_
    refine jq 1 [(0, eS 6 eTask a0), (2, eS 1 vt a2), (7, vi v4), (33, vb (!y6))] [] ?_
    refine TriE.cond (b := !y6) rfl (fun c5 => ?_) (fun c5 => ?_)
    · have h := cond_t h c5
      refine sr [(6, vi 14)] [] ?_
      refine TriE.ret ?_
      have h := Option.some.inj h
      subst h
      exact DoneS.ret (S' := ⟨[(6, vi 14)], []⟩) Sees.refl rfl rfl
    have h := cond_f h c5
    refine TriE.skip ?_
    refine TriE.regJ ?_
    refine rn 1 [(0, eS 6 eTask a0), (2, eS 1 vt a2), (19, vi v4)] [] ?_
    obtain ⟨c6, h⟩ := chk_some h
    refine jv (vi ((v4 + 1 : Nat) : Int)) (cy (I0 20 (.bin .add false (.t 19) (.c (.p (.int .i64 1)))))) (r_addn (i := v4) (j := 1) rfl rfl c6) rfl ?_
    refine jq 1 [(0, eS 6 eTask a0), (2, eS 1 vt a2), (7, vi ((v4 + 1 : Nat) : Int))] [] ?_
    exact Vs.intro sy ⟨(v4 + 1), rfl, h⟩
  have h := cond_f h c2
  refine TriE.exit ?_
  exact Vs.intro sy ⟨(), rfl, h⟩
theorem agraffelaw08_RestoreClosures_ok (n : Nat) (a0 : List Task) (a1 : List Str) (a2 : List Str) (r : Bool) (h : agraffelaw08_RestoreClosures n a0 a1 a2 = some r) : FnL Tryz.prog 8 [eS 6 eTask a0, eS 1 vt a1, eS 1 vt a2] [] (vb r) [] := by
  dsimp only [agraffelaw08_RestoreClosures] at h
  refine FnL.ofS (ts := [6]) Tryz.call8 Tryz.func8 rfl rfl (Nat.le_of_ble_eq_true rfl) (Nat.le_of_ble_eq_true rfl) (fun j h => absurd h (Nat.not_lt_zero j)) ?_
  refine sr [(0, eS 6 eTask a0), (1, eS 1 vt a1), (2, eS 1 vt a2)] [] ?_
  refine TriE.seq ?_
  refine sj ?_
  obtain ⟨y1, hy1, h⟩ := bind_some h
  refine RegJ.op (Op1.call (y' := vb y1) (obx := []) (oby := []) (ob2 := []) _ _ (cy (I0 11 (.call 14 []))) rfl (agraffelaw08_awake_ok n y1 hy1) [] (by kernel_rfl) (.cons rfl .nil) (by kernel_rfl) (by kernel_rfl) ObsRen.nil (by kernel_rfl) ObsRen.nil (by kernel_rfl)) ?_
  refine jq 1 [(0, eS 6 eTask a0), (1, eS 1 vt a1), (2, eS 1 vt a2), (12, vb (!y1))] [] ?_
  refine TriE.cond (b := !y1) rfl (fun c1 => ?_) (fun c1 => ?_)
  · have h := cond_t h c1
    refine sr [(6, vb false)] [] ?_
    refine TriE.ret ?_
    have h := Option.some.inj h
    subst h
    exact DoneS.ret (S' := ⟨[(6, vb false)], []⟩) Sees.refl rfl rfl
  have h := cond_f h c1
  refine TriE.skip ?_
  refine TriE.seq ?_
  refine sj ?_
  refine rn 1 [(0, eS 6 eTask a0), (1, eS 1 vt a1), (2, eS 1 vt a2), (13, eS 6 eTask a0)] [] ?_
  obtain ⟨y2, hy2, h⟩ := bind_some h
  refine RegJ.op (Op1.call (y' := vb y2) (obx := []) (oby := []) (ob2 := []) _ _ (cy (I0 14 (.call 15 [(.t 13)]))) rfl (agraffelaw08_Few_ok n a0 y2 hy2) [] (by kernel_rfl) (.cons rfl (.cons rfl .nil)) (by kernel_rfl) (by kernel_rfl) ObsRen.nil (by kernel_rfl) ObsRen.nil (by kernel_rfl)) ?_
  refine rn 2 [(0, eS 6 eTask a0), (1, eS 1 vt a1), (2, eS 1 vt a2), (16, vb (!y2))] [] ?_
  refine RegJ.op (Op1.valk (v := eS 1 vt a1) _ _ (cy (IG 17 (.mov (.t 1)) 16 false)) rfl (by kernel_rfl) (fun hg => (.cons rfl .nil))) ?_
  obtain ⟨y3, hy3, h⟩ := bind_some h
  refine RegJ.op (Op1.callg (g := !(!y2)) (y' := vb y3) (obx := []) _ _ (cy (IG 18 (.call 17 [(.t 17), (.c (.p (.int .i64 12)))]) 16 false)) rfl (fun hg => agraffelaw08_texts_ok n a1 12 y3 (gcall_some hy3 hg)) [] (fun hg => by kernel_rfl) (fun hg => (.cons rfl (.cons hg (.cons rfl .nil)))) (by kernel_rfl) (by kernel_rfl) ObsRen.nil (by kernel_rfl) (by kernel_rfl)) ?_
  refine RegJ.op (Op1.valk (v := vb (!y3)) _ _ (cy (IG 19 (.un .not (.t 18)) 16 false)) rfl (by kernel_rfl) (fun hg => (.cons hg .nil))) ?_
  refine RegJ.op (Op1.or (cy (I0 20 (.pick (.t 16) (.c (.p (.bool true))) (.t 19)))) rfl rfl (by first | exact hokO1 | exact hokO0 | simp)) ?_
  refine rn 1 [(0, eS 6 eTask a0), (1, eS 1 vt a1), (2, eS 1 vt a2), (21, vb ((!y2) || (!y3)))] [] ?_
  refine RegJ.op (Op1.valk (v := eS 1 vt a2) _ _ (cy (IG 22 (.mov (.t 2)) 21 false)) rfl (by kernel_rfl) (fun hg => (.cons rfl .nil))) ?_
  obtain ⟨y4, hy4, h⟩ := bind_some h
  refine RegJ.op (Op1.callg (g := !((!y2) || (!y3))) (y' := vb y4) (obx := []) _ _ (cy (IG 23 (.call 17 [(.t 22), (.c (.p (.int .i64 12)))]) 21 false)) rfl (fun hg => agraffelaw08_texts_ok n a2 12 y4 (gcall_some hy4 hg)) [] (fun hg => by kernel_rfl) (fun hg => (.cons rfl (.cons hg (.cons rfl .nil)))) (by kernel_rfl) (by kernel_rfl) ObsRen.nil (by kernel_rfl) (by kernel_rfl)) ?_
  refine RegJ.op (Op1.valk (v := vb (!y4)) _ _ (cy (IG 24 (.un .not (.t 23)) 21 false)) rfl (by kernel_rfl) (fun hg => (.cons hg .nil))) ?_
  refine RegJ.op (Op1.or (cy (I0 25 (.pick (.t 21) (.c (.p (.bool true))) (.t 24)))) rfl rfl (by first | exact hokO1 | exact hokO0 | simp)) ?_
  refine jp [(0, eS 6 eTask a0), (1, eS 1 vt a1), (2, eS 1 vt a2), (25, vb (((!y2) || (!y3)) || (!y4)))] ?_
  refine TriE.cond (b := ((!y2) || (!y3)) || (!y4)) rfl (fun c2 => ?_) (fun c2 => ?_)
  · have h := cond_t h c2
    refine sr [(6, vb true)] [] ?_
    refine TriE.ret ?_
    have h := Option.some.inj h
    subst h
    exact DoneS.ret (S' := ⟨[(6, vb true)], []⟩) Sees.refl rfl rfl
  have h := cond_f h c2
  refine TriE.skip ?_
  refine sj ?_
  refine rn 1 [(0, eS 6 eTask a0), (1, eS 1 vt a1), (2, eS 1 vt a2), (26, eS 6 eTask a0)] [] ?_
  obtain ⟨y5, hy5, h⟩ := bind_some h
  refine RegJ.op (Op1.call (y' := eS 6 eTask y5) (obx := []) (oby := []) (ob2 := []) _ _ (cy (I0 27 (.call 20 [(.t 26)]))) rfl (agraffelaw08_Copied_ok n a0 y5 hy5) [] (by kernel_rfl) (.cons rfl (.cons rfl .nil)) (by kernel_rfl) (by kernel_rfl) ObsRen.nil (by kernel_rfl) ObsRen.nil (by kernel_rfl)) ?_
  refine rn 1 [(0, eS 6 eTask a0), (1, eS 1 vt a1), (2, eS 1 vt a2), (27, eS 6 eTask y5), (28, eS 1 vt a1)] [] ?_
  obtain ⟨y6, hy6, h⟩ := bind_some h
  refine RegJ.op (Op1.call (y' := .own 0 0 a1.length) (obx := []) (oby := [some (.row 1 (List.map vt a1))]) (ob2 := [some (.row 1 (List.map vt a1))]) _ _ (cy (I0 29 (.call 18 [(.t 28)]))) rfl (agraffebase_CopyTexts_2_ok n a1 y6 hy6) [] (by kernel_rfl) (.cons rfl (.cons rfl .nil)) (by kernel_rfl) (by kernel_rfl) ObsRen.nil (by kernel_rfl) (.same (row_ren vt_frz _ _ _) .nil) (by kernel_rfl)) ?_
  refine rn 1 [(0, eS 6 eTask a0), (1, eS 1 vt a1), (2, eS 1 vt a2), (27, eS 6 eTask y5), (29, .own 0 0 a1.length), (30, eS 1 vt a2)] [some (.row 1 (List.map vt a1))] ?_
  obtain ⟨y7, hy7, h⟩ := bind_some h
  refine RegJ.op (Op1.call (y' := .own 1 0 a2.length) (obx := []) (oby := [some (.row 1 (List.map vt a2))]) (ob2 := [some (.row 1 (List.map vt a1)), some (.row 1 (List.map vt a2))]) _ _ (cy (I0 31 (.call 18 [(.t 30)]))) rfl (agraffebase_CopyTexts_2_ok n a2 y7 hy7) [] (by kernel_rfl) (.cons rfl (.cons rfl .nil)) (by kernel_rfl) (by kernel_rfl) ObsRen.nil (by kernel_rfl) (.same (row_ren vt_frz _ _ _) .nil) (by kernel_rfl)) ?_
  refine RegJ.sees (Sees.freeze 0 (fr' := [(0, eS 6 eTask a0), (1, eS 1 vt a1), (2, eS 1 vt a2), (27, eS 6 eTask y5), (29, eS 1 vt a1), (30, eS 1 vt a2), (31, .own 1 0 a2.length)]) (ob' := [none, some (.row 1 (List.map vt a2))]) rfl (frz_row vt_frzE _) (.cons (.refl _) (.cons (.refl _) (.cons (.refl _) (.cons (.refl _) (.cons (frz_full rfl) (.cons (.refl _) (.cons (.refl _) .nil))))))) rfl) ?_
  refine RegJ.sees (Sees.freeze 1 (fr' := [(0, eS 6 eTask a0), (1, eS 1 vt a1), (2, eS 1 vt a2), (27, eS 6 eTask y5), (29, eS 1 vt a1), (30, eS 1 vt a2), (31, eS 1 vt a2)]) (ob' := [none, none]) rfl (frz_row vt_frzE _) (.cons (.refl _) (.cons (.refl _) (.cons (.refl _) (.cons (.refl _) (.cons (.refl _) (.cons (.refl _) (.cons (frz_full rfl) .nil))))))) rfl) ?_
  obtain ⟨y8, hy8, h⟩ := bind_some h
  refine RegJ.op (Op1.call (y' := vi y8) (obx := []) (oby := []) (ob2 := [none, none]) _ _ (cy (I0 32 (.call 52 [(.t 27), (.t 29), (.t 31)]))) rfl (restore_CheckClosure_ok n y5 a1 a2 y8 hy8) [] (by kernel_rfl) (.cons rfl (.cons rfl (.cons rfl (.cons rfl .nil)))) (by kernel_rfl) (by kernel_rfl) ObsRen.nil (by kernel_rfl) ObsRen.nil (by kernel_rfl)) ?_
  refine jq 1 [(0, eS 6 eTask a0), (1, eS 1 vt a1), (2, eS 1 vt a2), (7, vi y8)] [none, none] ?_
  refine sj ?_
  refine rn 1 [(0, eS 6 eTask a0), (1, eS 1 vt a1), (2, eS 1 vt a2), (7, vi y8), (34, eS 6 eTask a0)] [none, none] ?_
  obtain ⟨y9, hy9, h⟩ := bind_some h
  refine RegJ.op (Op1.call (y' := eS 6 eTask y9) (obx := []) (oby := []) (ob2 := [none, none]) _ _ (cy (I0 35 (.call 20 [(.t 34)]))) rfl (agraffelaw08_Copied_ok n a0 y9 hy9) [] (by kernel_rfl) (.cons rfl (.cons rfl .nil)) (by kernel_rfl) (by kernel_rfl) ObsRen.nil (by kernel_rfl) ObsRen.nil (by kernel_rfl)) ?_
  refine rn 1 [(0, eS 6 eTask a0), (1, eS 1 vt a1), (2, eS 1 vt a2), (7, vi y8), (35, eS 6 eTask y9), (36, eS 1 vt a1)] [none, none] ?_
  obtain ⟨y10, hy10, h⟩ := bind_some h
  refine RegJ.op (Op1.call (y' := .own 2 0 a1.length) (obx := []) (oby := [some (.row 1 (List.map vt a1))]) (ob2 := [none, none, some (.row 1 (List.map vt a1))]) _ _ (cy (I0 37 (.call 18 [(.t 36)]))) rfl (agraffebase_CopyTexts_2_ok n a1 y10 hy10) [] (by kernel_rfl) (.cons rfl (.cons rfl .nil)) (by kernel_rfl) (by kernel_rfl) ObsRen.nil (by kernel_rfl) (.same (row_ren vt_frz _ _ _) .nil) (by kernel_rfl)) ?_
  refine RegJ.sees (Sees.freeze 2 (fr' := [(0, eS 6 eTask a0), (1, eS 1 vt a1), (2, eS 1 vt a2), (7, vi y8), (35, eS 6 eTask y9), (36, eS 1 vt a1), (37, eS 1 vt a1)]) (ob' := [none, none, none]) rfl (frz_row vt_frzE _) (.cons (.refl _) (.cons (.refl _) (.cons (.refl _) (.cons (.refl _) (.cons (.refl _) (.cons (.refl _) (.cons (frz_full rfl) .nil))))))) rfl) ?_
  obtain ⟨y11, hy11, h⟩ := bind_some h
  refine RegJ.op (Op1.call (y' := .tup [eS 1 vt y11.2, vi y11.1]) (obx := []) (oby := []) (ob2 := [none, none, none]) _ _ (cy (I0 38 (.call 53 [(.t 35), (.t 37)]))) rfl (restore_ByFirst_ok n y9 a1 y11 hy11) [] (by kernel_rfl) (.cons rfl (.cons rfl (.cons rfl .nil))) (by kernel_rfl) (by kernel_rfl) ObsRen.nil (by kernel_rfl) ObsRen.nil (by kernel_rfl)) ?_
  refine jq 5 [(0, eS 6 eTask a0), (1, eS 1 vt a1), (2, eS 1 vt a2), (7, vi y8), (8, eS 1 vt y11.2), (9, vi y11.1)] [none, none, none] ?_
  refine sj ?_
  refine rn 1 [(0, eS 6 eTask a0), (1, eS 1 vt a1), (2, eS 1 vt a2), (7, vi y8), (8, eS 1 vt y11.2), (9, vi y11.1), (41, eS 6 eTask a0)] [none, none, none] ?_
  obtain ⟨y12, hy12, h⟩ := bind_some h
  refine RegJ.op (Op1.call (y' := vi y12) (obx := []) (oby := []) (ob2 := [none, none, none]) _ _ (cy (I0 42 (.call 21 [(.t 41)]))) rfl (agrafferef08_CheckTasks_ok n a0 y12 hy12) [] (by kernel_rfl) (.cons rfl (.cons rfl .nil)) (by kernel_rfl) (by kernel_rfl) ObsRen.nil (by kernel_rfl) ObsRen.nil (by kernel_rfl)) ?_
  refine jq 1 [(0, eS 6 eTask a0), (1, eS 1 vt a1), (2, eS 1 vt a2), (7, vi y8), (8, eS 1 vt y11.2), (9, vi y11.1), (10, vi y12)] [none, none, none] ?_
  refine TriE.seqK h (fun (v14 : Int) => St.mk [(0, eS 6 eTask a0), (1, eS 1 vt a1), (2, eS 1 vt a2), (7, vi y8), (8, eS 1 vt y11.2), (9, vi y11.1), (10, vi v14)] []) ?_ ?_
  · rintro v14 h
    refine TriE.seq ?_
    refine sr [(0, eS 6 eTask a0), (1, eS 1 vt a1), (2, eS 1 vt a2), (7, vi y8), (8, eS 1 vt y11.2), (9, vi y11.1), (10, vi v14), (49, vb (v14 != (0 : Int)))] [] ?_
    refine TriE.cond (b := (v14 != (0 : Int))) rfl (fun c4 => ?_) (fun c4 => ?_)
    · have h := cond_t h c4
      refine sj ?_
      refine rn 4 [(8, eS 1 vt y11.2), (9, vi y11.1), (10, vi v14), (53, vb (y8 == v14))] [] ?_
      refine RegJ.op (Op1.valk (v := vi y11.1) _ _ (cy (IG 54 (.mov (.t 9)) 53 true)) rfl (by kernel_rfl) (fun hg => (.cons rfl .nil))) ?_
      refine RegJ.op (Op1.valk (v := vi v14) _ _ (cy (IG 55 (.mov (.t 10)) 53 true)) rfl (by kernel_rfl) (fun hg => (.cons rfl .nil))) ?_
      refine RegJ.op (Op1.valk (v := vb (y11.1 == v14)) _ _ (cy (IG 56 (.bin .eql false (.t 54) (.t 55)) 53 true)) rfl (by kernel_rfl) (fun hg => (.cons hg (.cons hg .nil)))) ?_
      refine RegJ.op (Op1.and (cy (I0 57 (.pick (.t 53) (.t 56) (.c (.p (.bool false)))))) rfl rfl (by first | exact hokA1 | exact hokA0 | simp)) ?_
      refine rn 1 [(8, eS 1 vt y11.2), (58, vb ((y8 == v14) && (y11.1 == v14)))] [] ?_
      refine RegJ.op (Op1.valk (v := eS 1 vt y11.2) _ _ (cy (IG 59 (.mov (.t 8)) 58 true)) rfl (by kernel_rfl) (fun hg => (.cons rfl .nil))) ?_
      refine RegJ.op (Op1.valg (v := vi ((y11.2.length : Nat) : Int)) _ _ (cy (IG 60 (.len 0 (.t 59)) 58 true)) rfl (fun hg => (ok_len_m rfl)) (fun hg => (.cons hg .nil))) ?_
      refine RegJ.op (Op1.valg (v := vb (decide (y11.2.length = 0))) _ _ (cy (IG 61 (.bin .eql false (.t 60) (.c (.p (.int .i64 0)))) 58 true)) rfl (fun hg => (n_eql (i := y11.2.length) (j := 0) rfl rfl)) (fun hg => (.cons hg (.cons rfl .nil)))) ?_
      refine RegJ.op (Op1.and (cy (I0 62 (.pick (.t 58) (.t 61) (.c (.p (.bool false)))))) rfl rfl (by first | exact hokA1 | exact hokA0 | simp)) ?_
      refine jq 1 [(6, vb (((y8 == v14) && (y11.1 == v14)) && (decide (y11.2.length = 0))))] [] ?_
      refine TriE.ret ?_
      have h := Option.some.inj h
      subst h
      exact DoneS.ret (S' := ⟨[(6, vb (((y8 == v14) && (y11.1 == v14)) && (decide (y11.2.length = 0))))], []⟩) Sees.refl rfl rfl
    have h := cond_f h c4
    refine TriE.skip ?_
    refine TriE.seq ?_
    refine TriE.seqK h (fun (v20 : Bool) => St.mk [(0, eS 6 eTask a0), (1, eS 1 vt a1), (2, eS 1 vt a2), (7, vi y8), (81, vb v20)] []) ?_ ?_
    · rintro v20 h
      refine TriE.cond (b := v20) rfl (fun c6 => ?_) (fun c6 => ?_)
      · have h := cond_t h c6
        refine sr [(6, vb false)] [] ?_
        refine TriE.ret ?_
        have h := Option.some.inj h
        subst h
        exact DoneS.ret (S' := ⟨[(6, vb false)], []⟩) Sees.refl rfl rfl
      have h := cond_f h c6
      refine TriE.skip ?_
      refine TriE.seqK h (fun (v23 : Int) => St.mk [(7, vi y8), (10, vi v23)] []) ?_ ?_
      · rintro v23 h
        refine sr [(6, vb (y8 == v23))] [] ?_
        refine TriE.ret ?_
        have h := Option.some.inj h
        subst h
        exact DoneS.ret (S' := ⟨[(6, vb (y8 == v23))], []⟩) Sees.refl rfl rfl
      intro k3 h
      refine sj ?_
      refine rn 2 [(0, eS 6 eTask a0), (1, eS 1 vt a1), (2, eS 1 vt a2), (7, vi y8), (82, eS 6 eTask a0), (83, eS 1 vt a2)] [] ?_
      obtain ⟨y21, hy21, h⟩ := bind_some h
      refine RegJ.op (Op1.call (y' := vi y21) (obx := []) (oby := []) (ob2 := []) _ _ (cy (I0 84 (.call 54 [(.t 82), (.t 83)]))) rfl (agrafferef08_CheckSet_ok n a0 a2 y21 hy21) [] (by kernel_rfl) (.cons rfl (.cons rfl (.cons rfl .nil))) (by kernel_rfl) (by kernel_rfl) ObsRen.nil (by kernel_rfl) ObsRen.nil (by kernel_rfl)) ?_
      refine jq 1 [(0, eS 6 eTask a0), (1, eS 1 vt a1), (2, eS 1 vt a2), (7, vi y8), (10, vi y21)] [] ?_
      refine sr [(0, eS 6 eTask a0), (1, eS 1 vt a1), (2, eS 1 vt a2), (7, vi y8), (10, vi y21), (86, vb (y21 == (0 : Int)))] [] ?_
      refine TriE.cond (b := (y21 == (0 : Int))) rfl (fun c7 => ?_) (fun c7 => ?_)
      · have h := cond_t h c7
        refine TriE.regJ ?_
        refine rn 3 [(7, vi y8), (87, eS 6 eTask a0), (88, eS 1 vt a1), (89, eS 1 vt a2)] [] ?_
        obtain ⟨y22, hy22, h⟩ := bind_some h
        refine RegJ.op (Op1.call (y' := vi y22) (obx := []) (oby := []) (ob2 := []) _ _ (cy (I0 90 (.call 56 [(.t 87), (.t 88), (.t 89)]))) rfl (agrafferef08_Closure_ok n a0 a1 a2 y22 hy22) [] (by kernel_rfl) (.cons rfl (.cons rfl (.cons rfl (.cons rfl .nil)))) (by kernel_rfl) (by kernel_rfl) ObsRen.nil (by kernel_rfl) ObsRen.nil (by kernel_rfl)) ?_
        refine jq 1 [(7, vi y8), (10, vi y22)] [] ?_
        exact Vs.intro Sees.refl ⟨y22, rfl, h⟩
      have h := cond_f h c7
      refine TriE.skip ?_
      exact Vs.intro sy ⟨y21, rfl, h⟩
    intro k2 h
    refine TriE.regJ ?_
    refine rn 3 [(0, eS 6 eTask a0), (1, eS 1 vt a1), (2, eS 1 vt a2), (7, vi y8), (8, eS 1 vt y11.2), (65, vb (y11.1 != (0 : Int)))] [] ?_
    refine RegJ.op (Op1.valk (v := eS 1 vt y11.2) _ _ (cy (IG 66 (.mov (.t 8)) 65 false)) rfl (by kernel_rfl) (fun hg => (.cons rfl .nil))) ?_
    refine RegJ.op (Op1.valk (v := eS 6 eTask a0) _ _ (cy (IG 67 (.mov (.t 0)) 65 false)) rfl (by kernel_rfl) (fun hg => (.cons rfl .nil))) ?_
    refine RegJ.op (Op1.valk (v := eS 1 vt a1) _ _ (cy (IG 68 (.mov (.t 1)) 65 false)) rfl (by kernel_rfl) (fun hg => (.cons rfl .nil))) ?_
    obtain ⟨y15, hy15, h⟩ := bind_some h
    refine RegJ.op (Op1.callg (g := !(y11.1 != (0 : Int))) (y' := eS 1 vt y15) (obx := []) _ _ (cy (IG 69 (.call 55 [(.t 67), (.t 68)]) 65 false)) rfl (fun hg => agrafferef08_ByFirst_ok n a0 a1 y15 (gcall_some hy15 hg)) [] (fun hg => by kernel_rfl) (fun hg => (.cons rfl (.cons hg (.cons hg .nil)))) (by kernel_rfl) (by kernel_rfl) ObsRen.nil (by kernel_rfl) (by kernel_rfl)) ?_
    obtain ⟨y16, hy16, h⟩ := bind_some h
    refine RegJ.op (Op1.callg (g := !(y11.1 != (0 : Int))) (y' := vb y16) (obx := []) _ _ (cy (IG 70 (.call 39 [(.t 66), (.t 69)]) 65 false)) rfl (fun hg => agraffebase_Texts_ok n y11.2 y15 y16 (gcall_some hy16 hg)) [] (fun hg => by kernel_rfl) (fun hg => (.cons rfl (.cons hg (.cons hg .nil)))) (by kernel_rfl) (by kernel_rfl) ObsRen.nil (by kernel_rfl) (by kernel_rfl)) ?_
    refine RegJ.op (Op1.valk (v := vb (!y16)) _ _ (cy (IG 71 (.un .not (.t 70)) 65 false)) rfl (by kernel_rfl) (fun hg => (.cons hg .nil))) ?_
    refine RegJ.op (Op1.or (cy (I0 72 (.pick (.t 65) (.c (.p (.bool true))) (.t 71)))) rfl rfl (by first | exact hokO1 | exact hokO0 | simp)) ?_
    refine rn 1 [(0, eS 6 eTask a0), (1, eS 1 vt a1), (2, eS 1 vt a2), (7, vi y8), (8, eS 1 vt y11.2), (73, vb ((y11.1 != (0 : Int)) || (!y16)))] [] ?_
    refine RegJ.op (Op1.valk (v := eS 6 eTask a0) _ _ (cy (IG 74 (.mov (.t 0)) 73 false)) rfl (by kernel_rfl) (fun hg => (.cons rfl .nil))) ?_
    obtain ⟨y17, hy17, h⟩ := bind_some h
    refine RegJ.op (Op1.callg (g := !((y11.1 != (0 : Int)) || (!y16))) (y' := eS 6 eTask y17) (obx := []) _ _ (cy (IG 75 (.call 20 [(.t 74)]) 73 false)) rfl (fun hg => agraffelaw08_Copied_ok n a0 y17 (gcall_some hy17 hg)) [] (fun hg => by kernel_rfl) (fun hg => (.cons rfl (.cons hg .nil))) (by kernel_rfl) (by kernel_rfl) ObsRen.nil (by kernel_rfl) (by kernel_rfl)) ?_
    refine RegJ.op (Op1.valk (v := eS 1 vt a1) _ _ (cy (IG 76 (.mov (.t 1)) 73 false)) rfl (by kernel_rfl) (fun hg => (.cons rfl .nil))) ?_
    refine RegJ.op (Op1.valk (v := eS 1 vt y11.2) _ _ (cy (IG 77 (.mov (.t 8)) 73 false)) rfl (by kernel_rfl) (fun hg => (.cons rfl .nil))) ?_
    rcases Bool.eq_false_or_eq_true (!((y11.1 != (0 : Int)) || (!y16))) with c5 | c5
    · have h := cond_t h c5
      obtain ⟨y18, hy18, h⟩ := bind_some h
      refine RegJ.op (Op1.call (y' := .own 0 0 y11.2.length) (obx := []) (oby := [some (.row 1 (List.map vt y11.2))]) (ob2 := [some (.row 1 (List.map vt y11.2))]) _ _ (cy (IG 78 (.call 18 [(.t 77)]) 73 false)) (congrArg some c5) (agraffebase_CopyTexts_2_ok n y11.2 y18 hy18) [] (by kernel_rfl) (.cons rfl (.cons c5 .nil)) (by kernel_rfl) (by kernel_rfl) ObsRen.nil (by kernel_rfl) (.same (row_ren vt_frz _ _ _) .nil) (by kernel_rfl)) ?_
      refine RegJ.sees (Sees.freeze 0 (fr' := [(0, eS 6 eTask a0), (1, eS 1 vt a1), (2, eS 1 vt a2), (7, vi y8), (8, eS 1 vt y11.2), (73, vb ((y11.1 != (0 : Int)) || (!y16))), (74, .cond (!((y11.1 != (0 : Int)) || (!y16))) (eS 6 eTask a0)), (75, .cond (!((y11.1 != (0 : Int)) || (!y16))) (eS 6 eTask y17)), (76, .cond (!((y11.1 != (0 : Int)) || (!y16))) (eS 1 vt a1)), (77, .cond (!((y11.1 != (0 : Int)) || (!y16))) (eS 1 vt y11.2)), (78, eS 1 vt y11.2)]) (ob' := [none]) rfl (frz_row vt_frzE _) (.cons (.refl _) (.cons (.refl _) (.cons (.refl _) (.cons (.refl _) (.cons (.refl _) (.cons (.refl _) (.cons (.refl _) (.cons (.refl _) (.cons (.refl _) (.cons (.refl _) (.cons (frz_full rfl) .nil))))))))))) rfl) ?_
      obtain ⟨y19, hy19, h⟩ := bind_some h
      refine RegJ.op (Op1.call (y' := vi y19) (obx := []) (oby := []) (ob2 := [none]) _ _ (cy (IG 79 (.call 52 [(.t 75), (.t 76), (.t 78)]) 73 false)) (congrArg some c5) (restore_CheckClosure_ok n y17 a1 y11.2 y19 hy19) [] (by kernel_rfl) (.cons rfl (.cons c5 (.cons c5 (.cons rfl .nil)))) (by kernel_rfl) (by kernel_rfl) ObsRen.nil (by kernel_rfl) ObsRen.nil (by kernel_rfl)) ?_
      refine RegJ.op (Op1.effk (v := vb (y19 != (0 : Int))) (ob' := [none]) _ _ (cy (IG 80 (.bin .neq false (.t 79) (.c (.p (.int .i64 0)))) 73 false)) (congrArg some c5) (by kernel_rfl) (.cons rfl (.cons rfl .nil))) ?_
      refine RegJ.op (Op1.or (cy (I0 81 (.pick (.t 73) (.c (.p (.bool true))) (.t 80)))) rfl rfl (by first | exact hokO1 | exact hokO0 | simp)) ?_
      refine jp [(0, eS 6 eTask a0), (1, eS 1 vt a1), (2, eS 1 vt a2), (7, vi y8), (81, vb (((y11.1 != (0 : Int)) || (!y16)) || (y19 != (0 : Int))))] ?_
      exact Vs.intro (sc [] (by decide) (by kernel_rfl) ObRen.nil rfl rfl) ⟨(((y11.1 != (0 : Int)) || (!y16)) || (y19 != (0 : Int))), rfl, h⟩
    have h := cond_f h c5
    refine RegJ.op (Op1.skipc (g := !((y11.1 != (0 : Int)) || (!y16))) (v := vb false) (by kernel_rfl : compAt _ _ _ _ = some ⟨(some 78), .call 18 [(.t 77)], (some (73, false)), [(.c (.fn (.func 18) [] [])), (.t 77)], 2⟩) rfl c5) ?_
    refine RegJ.op (Op1.skipc (g := !((y11.1 != (0 : Int)) || (!y16))) (v := vb false) (by kernel_rfl : compAt _ _ _ _ = some ⟨(some 79), .call 52 [(.t 75), (.t 76), (.t 78)], (some (73, false)), [(.c (.fn (.func 52) [] [])), (.t 75), (.t 76), (.t 78)], 2⟩) rfl c5) ?_
    refine RegJ.op (Op1.skipc (g := !((y11.1 != (0 : Int)) || (!y16))) (v := vb false) (by kernel_rfl : compAt _ _ _ _ = some ⟨(some 80), .bin .neq false (.t 79) (.c (.p (.int .i64 0))), (some (73, false)), [(.t 79), (.c (.p (.int .i64 0)))], 0⟩) rfl c5) ?_
    refine RegJ.op (Op1.or (cy (I0 81 (.pick (.t 73) (.c (.p (.bool true))) (.t 80)))) rfl rfl (by first | exact hokO1 | exact hokO0 | simp)) ?_
    refine jp [(0, eS 6 eTask a0), (1, eS 1 vt a1), (2, eS 1 vt a2), (7, vi y8), (81, vb (((y11.1 != (0 : Int)) || (!y16)) || false))] ?_
    exact Vs.intro Sees.refl ⟨(((y11.1 != (0 : Int)) || (!y16)) || false), rfl, h⟩
  intro k1 h
  refine sr [(0, eS 6 eTask a0), (1, eS 1 vt a1), (2, eS 1 vt a2), (7, vi y8), (8, eS 1 vt y11.2), (9, vi y11.1), (10, vi y12), (44, vb (y12 == (0 : Int)))] [none, none, none] ?_
  refine TriE.cond (b := (y12 == (0 : Int))) rfl (fun c3 => ?_) (fun c3 => ?_)
  · have h := cond_t h c3
    refine TriE.regJ ?_
    refine rn 2 [(0, eS 6 eTask a0), (1, eS 1 vt a1), (2, eS 1 vt a2), (7, vi y8), (8, eS 1 vt y11.2), (9, vi y11.1), (45, eS 6 eTask a0), (46, eS 1 vt a1)] [none, none, none] ?_
    obtain ⟨y13, hy13, h⟩ := bind_some h
    refine RegJ.op (Op1.call (y' := vi y13) (obx := []) (oby := []) (ob2 := [none, none, none]) _ _ (cy (I0 47 (.call 54 [(.t 45), (.t 46)]))) rfl (agrafferef08_CheckSet_ok n a0 a1 y13 hy13) [] (by kernel_rfl) (.cons rfl (.cons rfl (.cons rfl .nil))) (by kernel_rfl) (by kernel_rfl) ObsRen.nil (by kernel_rfl) ObsRen.nil (by kernel_rfl)) ?_
    refine jq 1 [(0, eS 6 eTask a0), (1, eS 1 vt a1), (2, eS 1 vt a2), (7, vi y8), (8, eS 1 vt y11.2), (9, vi y11.1), (10, vi y13)] [none, none, none] ?_
    exact Vs.intro (sc [] (by decide) (by kernel_rfl) ObRen.nil rfl rfl) ⟨y13, rfl, h⟩
  have h := cond_f h c3
  refine TriE.skip ?_
  exact Vs.intro (sc [] (by decide) (by kernel_rfl) ObRen.nil rfl rfl) ⟨y12, rfl, h⟩
end Go.Proofs.YtcdcpambkdlhjaaGreat.As
