/- The code computes what the plain functions say, part 2: no condition. -/
import Derived.Test.YtchkkpbkgghcoaaGreatDoorWalk1
namespace Go.Proofs.YtchkkpbkgghcoaaGreatDoor.As
open Go Go.Proofs
set_option maxRecDepth 4000
set_option maxHeartbeats 1000000 in
theorem restore_read_3_ok (n : Nat) (a0 : List Task) (a1 : Str) (a2 : Int) (a3 : Int) (a4 : List Str) (a5 : List (List Str)) (a6 : List PartCount) (a7 : List Str) (r : Unit ⊕ (Bool × (List Task) × Int × Int × Str × (List Str) × (List (List Str)) × (List PartCount))) (h : restore_read_3 n a0 a1 a2 a3 a4 a5 a6 a7 = some r) : FnL Tryz.prog 66 [.own 0 0 a0.length, eS 1 vt a7] [some (.row 6 (List.set (List.map eTask a0) (a0.length - 1) (.agg [vt a1, vi a2, vi a3, eS 1 vt a4, .own 1 0 a5.length, .own 2 0 a6.length]))), some (.row 1 (List.map (eS 1 vt) a5)), some (.row 2 (List.map ePartCount a6))] (match r with | .inl r => .tup [.emp, vb false] | .inr r => .tup [.own 3 0 r.2.1.length, vb r.1]) (match r with | .inl r => [none, none, none] | .inr r => [none, none, none, some (.row 6 (List.set (List.map eTask r.2.1) (r.2.1.length - 1) (.agg [vt r.2.2.2.2.1, vi r.2.2.1, vi r.2.2.2.1, eS 1 vt r.2.2.2.2.2.1, .own 4 0 r.2.2.2.2.2.2.1.length, .own 5 0 r.2.2.2.2.2.2.2.length]))), some (.row 1 (List.map (eS 1 vt) r.2.2.2.2.2.2.1)), some (.row 2 (List.map ePartCount r.2.2.2.2.2.2.2))]) := by
 dsimp only [restore_read_3] at h
 refine FnL.ofS (ts := [4, 5]) Tryz.call66 Tryz.func66 rfl rfl (Nat.le_of_ble_eq_true rfl) (by rcases r with r | r <;> exact Nat.le_of_ble_eq_true rfl) (hall_of (.cons rfl (.cons rfl (.cons rfl .nil)))) ?_
 refine TriE.sees (Sees.mov (S' := ⟨[(0, .own 3 0 a0.length), (1, eS 1 vt a7)], [none, none, none, some (.row 6 (List.set (List.map eTask a0) (a0.length - 1) (.agg [vt a1, vi a2, vi a3, eS 1 vt a4, .own 4 0 a5.length, .own 5 0 a6.length]))), some (.row 1 (List.map (eS 1 vt) a5)), some (.row 2 (List.map ePartCount a6))]⟩) (rs := [0, 1, 2, 0, 1, 2]) (by kernel_rfl) rfl rfl (.cons (.inl rfl) (.cons (.inl rfl) .nil)) (.skip (.skip (.skip (obRen_set eTask_frz rfl rfl (obRen_row (eS_frz 1 vt) rfl (obRen_row ePartCount_frz rfl .nil))))))) ?_
 refine sr [(0, .own 3 0 a0.length), (1, eS 1 vt a7)] [none, none, none, some (.row 6 (List.set (List.map eTask a0) (a0.length - 1) (.agg [vt a1, vi a2, vi a3, eS 1 vt a4, .own 4 0 a5.length, .own 5 0 a6.length]))), some (.row 1 (List.map (eS 1 vt) a5)), some (.row 2 (List.map ePartCount a6))] ?_
 refine q1 ?_
 refine sj ?_
 refine rk 1 (.k2 (.i 13 (eS 1 vt a7) .n)) ?_
 refine cK h fun c1 h => ?_
 refine jo 14 (.iaddr 1 13 (ki 0)) (ok_iaddr_m (j := 0) rfl rfl rfl c1) ?_
 refine jo 15 (.load false 1 14) (ok_load_fm (v := vt (ix a7 0)) rfl c1 rfl) ?_
 refine jk 1 (.d2 (.k2 (.i 16 (vb ((ix a7 0) == ([116, 97, 115, 107] : Str))) .n))) ?_
 refine tc h (fun c2 h => ?_) (fun c2 h => ?_)
 ·refine q1 ?_
  refine sj ?_
  refine rk 1 (.k2 (.i 17 (eS 1 vt a7) .n)) ?_
  refine jo 18 (.len 0 17) (ok_len_m rfl) ?_
  refine jo 19 (.bin .neq false 18 (ki 4)) (n_neq (i := a7.length) (j := 4) rfl rfl) ?_
  refine jf (.d2 (.k2 (.i 19 (vb (!decide (a7.length = 4))) .n))) ?_
  refine tc h (fun c3 h => ?_) (fun c3 h => ?_)
  ·refine sk (.i 4 .emp (.i 5 (vb false) .n)) ?_
   refine q3 ?_
   have h := si h
   subst h
   exact DoneS.ret (S' := ⟨[(4, .emp), (5, vb false)], [none, none, none]⟩) (sc [0, 1, 2] (by decide) (by kernel_rfl) (.skip (.skip (.skip .nil))) rfl rfl) rfl rfl
  refine q2 ?_
  refine sj ?_
  refine rk 1 (.k2 (.i 21 (eS 1 vt a7) .n)) ?_
  refine cK h fun c4 h => ?_
  refine jo 22 (.iaddr 1 21 (ki 2)) (ok_iaddr_m (j := 2) rfl rfl rfl c4) ?_
  refine jo 23 (.load false 1 22) (ok_load_fm (v := vt (ix a7 2)) rfl c4 rfl) ?_
  refine bK h fun y1 hy1 h => ?_
  refine jc 24 [23, (ki 10)] (restore_number_ok n (ix a7 2) 10 y1 hy1) ?_
  refine jk 5 (.d3 (.k2 (.i 6 (vi y1.1) (.i 7 (vb y1.2) .n)))) ?_
  refine sj ?_
  refine rk 1 (.k4 (.i 28 (eS 1 vt a7) .n)) ?_
  refine cK h fun c5 h => ?_
  refine jo 29 (.iaddr 1 28 (ki 3)) (ok_iaddr_m (j := 3) rfl rfl rfl c5) ?_
  refine jo 30 (.load false 1 29) (ok_load_fm (v := vt (ix a7 3)) rfl c5 rfl) ?_
  refine bK h fun y2 hy2 h => ?_
  refine jc 31 [30, (ki 10)] (restore_number_ok n (ix a7 3) 10 y2 hy2) ?_
  refine jk 5 (.d3 (.k4 (.i 8 (vi y2.1) (.i 9 (vb y2.2) .n)))) ?_
  refine sj ?_
  refine rk 2 (.d2 (.k4 (.i 34 (.own 3 0 a0.length) (.i 35 (eS 1 vt a7) .n)))) ?_
  refine cK h fun c6 h => ?_
  refine jo 36 (.iaddr 1 35 (ki 1)) (ok_iaddr_m (j := 1) rfl rfl rfl c6) ?_
  refine jo 37 (.load false 1 36) (ok_load_fm (v := vt (ix a7 1)) rfl c6 rfl) ?_
  refine rko 4 (.d3 (.k (.d (.k2 (.i 41 (.own 6 0 1) .n))))) [none, none, none, some (.row 6 (List.set (List.map eTask a0) (a0.length - 1) (.agg [vt a1, vi a2, vi a3, eS 1 vt a4, .own 4 0 a5.length, .own 5 0 a6.length]))), some (.row 1 (List.map (eS 1 vt) a5)), some (.row 2 (List.map ePartCount a6)), some (.row 6 [.agg [vt (ix a7 1), vi y1.1, vi y2.1, .emp, .emp, .emp]])] ?_
  refine RegJ.sees (Sees.freezeO 4 (fr' := [(7, vb y1.2), (9, vb y2.2), (34, .own 3 0 a0.length), (41, .own 6 0 1)]) (ob' := [none, none, none, some (.row 6 (List.set (List.map eTask a0) (a0.length - 1) (.agg [vt a1, vi a2, vi a3, eS 1 vt a4, eS 1 (eS 1 vt) a5, .own 5 0 a6.length]))), none, some (.row 2 (List.map ePartCount a6)), some (.row 6 [.agg [vt (ix a7 1), vi y1.1, vi y2.1, .emp, .emp, .emp]])]) rfl (frz_row (eS_frzE 1 vt) _) (.cons (.refl _) (.cons (.refl _) (.cons (.refl _) (.cons (.refl _) .nil)))) (.cons .same (.cons .same (.cons .same (.cons (objFrz_set (fun _ => rfl) (.cons (.refl _) (.cons (.refl _) (.cons (.refl _) (.cons (.refl _) (.cons (frz_full rfl) (.cons (.refl _) .nil)))))) rfl) (.cons .same (.cons .same (.cons .same .nil)))))))) ?_
  refine RegJ.sees (Sees.freezeO 5 (fr' := [(7, vb y1.2), (9, vb y2.2), (34, .own 3 0 a0.length), (41, .own 6 0 1)]) (ob' := [none, none, none, some (.row 6 (List.set (List.map eTask a0) (a0.length - 1) (.agg [vt a1, vi a2, vi a3, eS 1 vt a4, eS 1 (eS 1 vt) a5, eS 2 ePartCount a6]))), none, none, some (.row 6 [.agg [vt (ix a7 1), vi y1.1, vi y2.1, .emp, .emp, .emp]])]) rfl (frz_row ePartCount_frzE _) (.cons (.refl _) (.cons (.refl _) (.cons (.refl _) (.cons (.refl _) .nil)))) (.cons .same (.cons .same (.cons .same (.cons (objFrz_set (fun _ => rfl) (.cons (.refl _) (.cons (.refl _) (.cons (.refl _) (.cons (.refl _) (.cons (.refl _) (.cons (frz_full rfl) .nil)))))) rfl) (.cons .same (.cons .same (.cons .same .nil)))))))) ?_
  refine RegJ.sees (Sees.obco (ob' := [none, none, none, some (.row 6 (List.map eTask (List.set a0 (a0.length - 1) (Task.mk a1 a2 a3 a4 a5 a6)))), none, none, some (.row 6 [.agg [vt (ix a7 1), vi y1.1, vi y2.1, .emp, .emp, .emp]])]) (.cons .same (.cons .same (.cons .same (.cons (objCo_set (fun _ => rfl) (.cons .same (.cons .same (.cons .same (.cons .same (.cons .same (.cons .same .nil))))))) (.cons .same (.cons .same (.cons .same .nil)))))))) ?_
  refine cK h fun c7 h => ?_
  refine jx 42 (.app 6 104 34 41) [none, none, none, none, none, none, some (.row 6 [.agg [vt (ix a7 1), vi y1.1, vi y2.1, .emp, .emp, .emp]]), some (.row 6 (List.set (List.map eTask ((List.set a0 (a0.length - 1) (Task.mk a1 a2 a3 a4 a5 a6)) ++ [(Task.mk (ix a7 1) y1.1 y2.1 ([] : List Str) ([] : List (List Str)) ([] : List PartCount))])) (((List.set a0 (a0.length - 1) (Task.mk a1 a2 a3 a4 a5 a6)) ++ [(Task.mk (ix a7 1) y1.1 y2.1 ([] : List Str) ([] : List (List Str)) ([] : List PartCount))]).length - 1) (.agg [vt (ix a7 1), vi y1.1, vi y2.1, .emp, .emp, .emp])))] (ok_app_raw (l := (List.set a0 (a0.length - 1) (Task.mk a1 a2 a3 a4 a5 a6))) (e := eTask) (x0 := (Task.mk (ix a7 1) y1.1 y2.1 ([] : List Str) ([] : List (List Str)) ([] : List PartCount))) (u := .own 6 0 1) (v := .agg [vt (ix a7 1), vi y1.1, vi y2.1, .emp, .emp, .emp]) (by simp) rfl rfl rfl rfl c7) rfl rfl ?_
  refine rk 2 (.d2 (.k (.i 42 (.own 7 0 (((List.set a0 (a0.length - 1) (Task.mk a1 a2 a3 a4 a5 a6)) ++ [(Task.mk (ix a7 1) y1.1 y2.1 ([] : List Str) ([] : List (List Str)) ([] : List PartCount))]).length)) (.i 44 (vb y1.2) .n)))) ?_
  refine gj (vb y2.2) 45 (.mov 9) 44 true rfl ?_
  refine pa 46 44 45 rfl rfl ?_
  refine jk 2 (.i 4 (.own 7 0 (((List.set a0 (a0.length - 1) (Task.mk a1 a2 a3 a4 a5 a6)) ++ [(Task.mk (ix a7 1) y1.1 y2.1 ([] : List Str) ([] : List (List Str)) ([] : List PartCount))]).length)) (.i 5 (vb (y1.2 && y2.2)) .n)) ?_
  refine q3 ?_
  have h := si h
  subst h
  exact DoneS.ret (S' := ⟨[(4, .own 3 0 (((List.set a0 (a0.length - 1) (Task.mk a1 a2 a3 a4 a5 a6)) ++ [(Task.mk (ix a7 1) y1.1 y2.1 ([] : List Str) ([] : List (List Str)) ([] : List PartCount))]).length)), (5, vb (y1.2 && y2.2))], [none, none, none, some (.row 6 (List.set (List.map eTask ((List.set a0 (a0.length - 1) (Task.mk a1 a2 a3 a4 a5 a6)) ++ [(Task.mk (ix a7 1) y1.1 y2.1 ([] : List Str) ([] : List (List Str)) ([] : List PartCount))])) (((List.set a0 (a0.length - 1) (Task.mk a1 a2 a3 a4 a5 a6)) ++ [(Task.mk (ix a7 1) y1.1 y2.1 ([] : List Str) ([] : List (List Str)) ([] : List PartCount))]).length - 1) (.agg [vt (ix a7 1), vi y1.1, vi y2.1, eS 1 vt ([] : List Str), .own 4 0 (([] : List (List Str)).length), .own 5 0 (([] : List PartCount).length)]))), some (.row 1 (List.map (eS 1 vt) ([] : List (List Str)))), some (.row 2 (List.map ePartCount ([] : List PartCount)))]⟩) (Sees.trans (Sees.co2 (fr' := [(4, .own 7 0 (((List.set a0 (a0.length - 1) (Task.mk a1 a2 a3 a4 a5 a6)) ++ [(Task.mk (ix a7 1) y1.1 y2.1 ([] : List Str) ([] : List (List Str)) ([] : List PartCount))]).length)), (5, vb (y1.2 && y2.2))]) (ob' := [none, none, none, none, none, none, some (.row 6 [.agg [vt (ix a7 1), vi y1.1, vi y2.1, .emp, .emp, .emp]]), some (.row 6 (List.set (List.map eTask ((List.set a0 (a0.length - 1) (Task.mk a1 a2 a3 a4 a5 a6)) ++ [(Task.mk (ix a7 1) y1.1 y2.1 ([] : List Str) ([] : List (List Str)) ([] : List PartCount))])) (((List.set a0 (a0.length - 1) (Task.mk a1 a2 a3 a4 a5 a6)) ++ [(Task.mk (ix a7 1) y1.1 y2.1 ([] : List Str) ([] : List (List Str)) ([] : List PartCount))]).length - 1) (.agg [vt (ix a7 1), vi y1.1, vi y2.1, eS 1 vt ([] : List Str), .own 8 0 0, .emp])))]) (.cons .same (.cons .same .nil)) (.cons .same (.cons .same (.cons .same (.cons .same (.cons .same (.cons .same (.cons .same (.cons (objLe_set (fun _ => rfl) (.cons .same (.cons .same (.cons .same (.cons .sl (.cons .own (.cons .same .nil)))))) rfl) .nil)))))))) 1) (Sees.trans (Sees.co2 (fr' := [(4, .own 7 0 (((List.set a0 (a0.length - 1) (Task.mk a1 a2 a3 a4 a5 a6)) ++ [(Task.mk (ix a7 1) y1.1 y2.1 ([] : List Str) ([] : List (List Str)) ([] : List PartCount))]).length)), (5, vb (y1.2 && y2.2))]) (ob' := [none, none, none, none, none, none, some (.row 6 [.agg [vt (ix a7 1), vi y1.1, vi y2.1, .emp, .emp, .emp]]), some (.row 6 (List.set (List.map eTask ((List.set a0 (a0.length - 1) (Task.mk a1 a2 a3 a4 a5 a6)) ++ [(Task.mk (ix a7 1) y1.1 y2.1 ([] : List Str) ([] : List (List Str)) ([] : List PartCount))])) (((List.set a0 (a0.length - 1) (Task.mk a1 a2 a3 a4 a5 a6)) ++ [(Task.mk (ix a7 1) y1.1 y2.1 ([] : List Str) ([] : List (List Str)) ([] : List PartCount))]).length - 1) (.agg [vt (ix a7 1), vi y1.1, vi y2.1, eS 1 vt ([] : List Str), .own 8 0 0, .own 9 0 0]))), some (.row 1 (List.map (eS 1 vt) ([] : List (List Str))))]) (.cons .same (.cons .same .nil)) (.cons .same (.cons .same (.cons .same (.cons .same (.cons .same (.cons .same (.cons .same (.cons (objLe_set (fun _ => rfl) (.cons .same (.cons .same (.cons .same (.cons .same (.cons .same (.cons .own .nil)))))) rfl) (.cons .same .nil))))))))) 2) (Sees.cov (Cov.mk2 (rs := [0, 1, 2, 7, 8, 9]) (by decide) rfl rfl (.cons (.inl (by simp only [List.length_set]; rfl)) (.cons (.inl rfl) .nil)) (.skip (.skip (.skip (obRen_set eTask_frz rfl rfl (obRen_row (eS_frz 1 vt) rfl (obRen_row ePartCount_frz rfl .nil)))))))))) rfl rfl
 refine q2 ?_
 refine q1 ?_
 refine sj ?_
 refine rk 2 (.k2 (.i 48 (vi (a0.length : Int)) .n)) ?_
 refine jo 49 (.bin .eql false 48 (ki 0)) (n_eql (i := a0.length) (j := 0) rfl rfl) ?_
 refine rk 1 (.d (.k2 (.i 50 (vb (decide (a0.length = 0))) .n))) ?_
 refine gj (eS 1 vt a7) 51 (.mov 1) 50 false rfl ?_
 refine gv 52 (.len 0 51) 50 false rfl (fun hg => (ok_len_m rfl)) (fun hg => (.cons hg .nil)) ?_
 refine gv 53 (.bin .lss false 52 (ki 2)) 50 false rfl (fun hg => (n_lss (i := a7.length) (j := 2) rfl rfl)) (fun hg => (.cons hg (.cons rfl .nil))) ?_
 refine po 54 50 53 rfl rfl ?_
 refine jf (.d4 (.k2 (.i 54 (vb ((decide (a0.length = 0)) || (decide (a7.length < 2)))) .n))) ?_
 refine tc h (fun c8 h => ?_) (fun c8 h => ?_)
 ·refine sk (.i 4 .emp (.i 5 (vb false) .n)) ?_
  refine q3 ?_
  have h := si h
  subst h
  exact DoneS.ret (S' := ⟨[(4, .emp), (5, vb false)], [none, none, none]⟩) (sc [0, 1, 2] (by decide) (by kernel_rfl) (.skip (.skip (.skip .nil))) rfl rfl) rfl rfl
 refine q2 ?_
 refine sj ?_
 refine rk 3 (.k2 (.i 55 (.own 3 0 a0.length) (.i 57 (vi (a0.length : Int)) .n))) ?_
 refine cK h fun c9 h => ?_
 refine jo 58 (.bin .sub false 57 (ki 1)) (r_sub rfl rfl c9) ?_
 refine cK h fun c10 h => ?_
 refine jo 59 (.iaddr 6 55 58) (ok_iaddr_o0 (j := a0.length - 1) rfl rfl rfl (last_to c10) (last_lt c10)) ?_
 refine jk 1 (.d2 (.k2 (.i 10 (.ptr 3 (a0.length - 1) 0) .n))) ?_
 refine q1 ?_
 refine sj ?_
 refine rk 1 (.k3 (.i 60 (eS 1 vt a7) .n)) ?_
 refine jo 61 (.iaddr 1 60 (ki 0)) (ok_iaddr_m (j := 0) rfl rfl rfl c1) ?_
 refine jo 62 (.load false 1 61) (ok_load_fm (v := vt (ix a7 0)) rfl c1 rfl) ?_
 refine jf (.d2 (.k3 (.i 62 (vt (ix a7 0)) .n))) ?_
 refine q4 ?_
 refine sk (.k4 (.i 63 (vb ((ix a7 0) == ([110, 101, 101, 100, 115] : Str))) .n)) ?_
 refine tc h (fun c11 h => ?_) (fun c11 h => ?_)
 ·refine q1 ?_
  refine q1 ?_
  refine ts (.k3 .n) ?_
  refine TriE.draw (by kernel_rfl) ?_
  refine dk 3 (.i 67 (.ptr 3 (a0.length - 1) 3) (.i 66 (.ptr 3 (a0.length - 1) 0) (.i 65 (.ptr 3 (a0.length - 1) 0) .a))) ?_
  refine dp 68 (.load false 1 67) (ok_load_set (l := a0) (e := eTask) (v := eS 1 vt a4) rfl rfl (last_lt c10) rfl) ?_
  refine dp 69 (.len 0 68) (ok_len_m rfl) ?_
  refine dk 3 (.i 72 (.ptr 3 (a0.length - 1) 4) (.i 71 (.ptr 3 (a0.length - 1) 0) (.i 70 (.ptr 3 (a0.length - 1) 0) .a))) ?_
  refine dp 73 (.load false 1 72) (ok_load_set (l := a0) (e := eTask) (v := .own 4 0 a5.length) rfl rfl (last_lt c10) rfl) ?_
  refine dk 1 (.i 74 (vi (a5.length : Int)) .a) ?_
  refine cK h fun c12 h => ?_
  refine dp 75 (.bin .add false 69 74) (r_addn (i := a4.length) (j := a5.length) rfl rfl c12) ?_
  refine dk 3 (.i 78 (.ptr 3 (a0.length - 1) 5) (.i 77 (.ptr 3 (a0.length - 1) 0) (.i 76 (.ptr 3 (a0.length - 1) 0) .a))) ?_
  refine dp 79 (.load false 1 78) (ok_load_set (l := a0) (e := eTask) (v := .own 5 0 a6.length) rfl rfl (last_lt c10) rfl) ?_
  refine dk 1 (.i 80 (vi (a6.length : Int)) .a) ?_
  refine cK h fun c13 h => ?_
  refine dp 81 (.bin .add false 75 80) (r_addn (i := a4.length + a5.length) (j := a6.length) rfl rfl c13) ?_
  refine dp 82 (.bin .gtr false 81 (ki 0)) (n_gtr (i := a4.length + a5.length + a6.length) (j := 0) rfl rfl) ?_
  refine dfi (ob' := [none, none, none, some (.row 6 (List.set (List.map eTask a0) (a0.length - 1) (.agg [vt a1, vi a2, vi a3, eS 1 vt a4, .own 4 0 a5.length, .own 5 0 a6.length]))), some (.row 1 (List.map (eS 1 vt) a5)), some (.row 2 (List.map ePartCount a6))]) (.d4 (.d4 (.d4 (.d4 (.d2 (.k3 (.i 82 (vb (decide (0 < (a4.length + a5.length + a6.length)))) .n))))))) [0, 1, 2, 3, 4, 5] (.skip (.skip (.skip (obRen_set eTask_frz rfl rfl (obRen_row (eS_frz 1 vt) rfl (obRen_row ePartCount_frz rfl .nil)))))) ?_
  refine tc h (fun c14 h => ?_) (fun c14 h => ?_)
  ·refine sk (.i 4 .emp (.i 5 (vb false) .n)) ?_
   refine q3 ?_
   have h := si h
   subst h
   exact DoneS.ret (S' := ⟨[(4, .emp), (5, vb false)], [none, none, none]⟩) (sc [0, 1, 2] (by decide) (by kernel_rfl) (.skip (.skip (.skip .nil))) rfl rfl) rfl rfl
  refine q2 ?_
  refine q6 ?_
  refine rk 2 (.k (.i 83 (.ptr 3 (a0.length - 1) 0) (.i 84 (eS 1 vt a7) .n))) ?_
  refine cK h fun c15 h => ?_
  refine jo 85 (.slc 1 84 (some (ki 1)) none none) (ok_slc_lo (j := 1) rfl rfl rfl c15) ?_
  refine rk 2 (.d (.k (.i 85 (eS 1 vt (List.drop 1 a7)) (.i 87 (.ptr 3 (a0.length - 1) 3) .n)))) ?_
  refine jn (.store 1 87 85) [none, none, none, some (.row 6 (List.set (List.map eTask a0) (a0.length - 1) (.agg [vt a1, vi a2, vi a3, eS 1 vt (List.drop 1 a7), .own 4 0 a5.length, .own 5 0 a6.length]))), some (.row 1 (List.map (eS 1 vt) a5)), some (.row 2 (List.map ePartCount a6))] (ok_store_s (l := a0) (e := eTask) (X' := .agg [vt a1, vi a2, vi a3, eS 1 vt (List.drop 1 a7), .own 4 0 a5.length, .own 5 0 a6.length]) (u := eS 1 vt (List.drop 1 a7)) rfl rfl rfl (last_lt c10) rfl rfl) rfl rfl ?_
  refine jf (.k .n) ?_
  refine sk (.i 4 (.own 3 0 a0.length) (.i 5 (vb true) .n)) ?_
  refine q3 ?_
  have h := si h
  subst h
  exact DoneS.ret Sees.refl rfl rfl
 refine sk (.k4 (.i 88 (vb ((ix a7 0) == ([111, 110, 101, 111, 102] : Str))) .n)) ?_
 refine tc h (fun c16 h => ?_) (fun c16 h => ?_)
 ·refine q1 ?_
  refine sj ?_
  refine rk 3 (.k3 (.i 92 (.ptr 3 (a0.length - 1) 5) .n)) ?_
  refine jo 93 (.load false 1 92) (ok_load_set (l := a0) (e := eTask) (v := .own 5 0 a6.length) rfl rfl (last_lt c10) rfl) ?_
  refine rk 1 (.d (.k3 (.i 94 (vi (a6.length : Int)) .n))) ?_
  refine jo 95 (.bin .gtr false 94 (ki 0)) (n_gtr (i := a6.length) (j := 0) rfl rfl) ?_
  refine jf (.d (.k3 (.i 95 (vb (decide (0 < a6.length))) .n))) ?_
  refine tc h (fun c17 h => ?_) (fun c17 h => ?_)
  ·refine sk (.i 4 .emp (.i 5 (vb false) .n)) ?_
   refine q3 ?_
   have h := si h
   subst h
   exact DoneS.ret (S' := ⟨[(4, .emp), (5, vb false)], [none, none, none]⟩) (sc [0, 1, 2] (by decide) (by kernel_rfl) (.skip (.skip (.skip .nil))) rfl rfl) rfl rfl
  refine q2 ?_
  refine ts (.k3 .n) ?_
  refine TriE.draw (by kernel_rfl) ?_
  refine dk 4 (.i 99 (.ptr 3 (a0.length - 1) 4) (.i 98 (.ptr 3 (a0.length - 1) 0) (.i 97 (.ptr 3 (a0.length - 1) 0) (.i 96 (.ptr 3 (a0.length - 1) 0) .a)))) ?_
  refine dp 100 (.load false 1 99) (ok_load_set (l := a0) (e := eTask) (v := .own 4 0 a5.length) rfl rfl (last_lt c10) rfl) ?_
  refine dk 1 (.i 101 (eS 1 vt a7) .a) ?_
  refine cK h fun c18 h => ?_
  refine dp 102 (.slc 1 101 (some (ki 1)) none none) (ok_slc_lo (j := 1) rfl rfl rfl c18) ?_
  refine dko 1 (.i 103 (.own 13 0 1) .a) [none, none, none, some (.row 6 (List.set (List.map eTask a0) (a0.length - 1) (.agg [vt a1, vi a2, vi a3, eS 1 vt a4, .own 4 0 a5.length, .own 5 0 a6.length]))), some (.row 1 (List.map (eS 1 vt) a5)), some (.row 2 (List.map ePartCount a6)), none, none, none, none, none, none, none, some (.row 1 [eS 1 vt (List.drop 1 a7)])] ?_
  refine cK h fun c19 h => ?_
  refine dx 104 (.app 1 24 100 103) [none, none, none, some (.row 6 (List.set (List.map eTask a0) (a0.length - 1) (.agg [vt a1, vi a2, vi a3, eS 1 vt a4, .own 4 0 a5.length, .own 5 0 a6.length]))), none, some (.row 2 (List.map ePartCount a6)), none, none, none, none, none, none, none, some (.row 1 [eS 1 vt (List.drop 1 a7)]), some (.row 1 (List.map (eS 1 vt) (a5 ++ ([(List.drop 1 a7)] : List (List Str)))))] (ok_app_own (l := a5) (l2 := ([(List.drop 1 a7)] : List (List Str))) (e := (eS 1 vt)) (u := .own 13 0 1) rfl rfl rfl rfl rfl c19) rfl rfl ?_
  refine dk 2 (.i 106 (.ptr 3 (a0.length - 1) 4) (.i 105 (.ptr 3 (a0.length - 1) 0) .a)) ?_
  refine dm (.store 1 106 104) [none, none, none, some (.row 6 (List.set (List.map eTask a0) (a0.length - 1) (.agg [vt a1, vi a2, vi a3, eS 1 vt a4, .own 14 0 ((a5 ++ ([(List.drop 1 a7)] : List (List Str))).length), .own 5 0 a6.length]))), none, some (.row 2 (List.map ePartCount a6)), none, none, none, none, none, none, none, some (.row 1 [eS 1 vt (List.drop 1 a7)]), some (.row 1 (List.map (eS 1 vt) (a5 ++ ([(List.drop 1 a7)] : List (List Str))))), none, none, none] (ok_store_s (l := a0) (e := eTask) (X' := .agg [vt a1, vi a2, vi a3, eS 1 vt a4, .own 14 0 ((a5 ++ ([(List.drop 1 a7)] : List (List Str))).length), .own 5 0 a6.length]) (u := .own 14 0 ((a5 ++ ([(List.drop 1 a7)] : List (List Str))).length)) rfl rfl rfl (last_lt c10) rfl rfl) rfl rfl ?_
  refine dfi (ob' := [none, none, none, some (.row 6 (List.set (List.map eTask a0) (a0.length - 1) (.agg [vt a1, vi a2, vi a3, eS 1 vt a4, .own 5 0 ((a5 ++ ([(List.drop 1 a7)] : List (List Str))).length), .own 4 0 a6.length]))), some (.row 2 (List.map ePartCount a6)), some (.row 1 (List.map (eS 1 vt) (a5 ++ ([(List.drop 1 a7)] : List (List Str)))))]) (.d4 (.d4 (.d3 (.k .n)))) [0, 1, 2, 3, 5, 14] (.skip (.skip (.skip (obRen_set eTask_frz rfl rfl (obRen_row ePartCount_frz rfl (obRen_row (eS_frz 1 vt) rfl .nil)))))) ?_
  refine sk (.i 4 (.own 3 0 a0.length) (.i 5 (vb true) .n)) ?_
  refine q3 ?_
  have h := si h
  subst h
  exact DoneS.ret (S' := ⟨[(4, .own 3 0 a0.length), (5, vb true)], [none, none, none, some (.row 6 (List.set (List.map eTask a0) (a0.length - 1) (.agg [vt a1, vi a2, vi a3, eS 1 vt a4, .own 4 0 ((a5 ++ ([(List.drop 1 a7)] : List (List Str))).length), .own 5 0 a6.length]))), some (.row 1 (List.map (eS 1 vt) (a5 ++ ([(List.drop 1 a7)] : List (List Str))))), some (.row 2 (List.map ePartCount a6))]⟩) (sc [0, 1, 2, 3, 5, 4] (by decide) (by kernel_rfl) (.skip (.skip (.skip (obRen_set eTask_frz rfl rfl (obRen_row (eS_frz 1 vt) rfl (obRen_row ePartCount_frz rfl .nil)))))) rfl rfl) rfl rfl
 refine sk (.k3 (.i 107 (vb ((ix a7 0) == ([112, 97, 114, 116] : Str))) .n)) ?_
 refine tc h (fun c20 h => ?_) (fun c20 h => ?_)
 ·refine q1 ?_
  refine sj ?_
  refine rk 1 (.k3 (.i 109 (eS 1 vt a7) .n)) ?_
  refine jo 110 (.len 0 109) (ok_len_m rfl) ?_
  refine jo 111 (.bin .neq false 110 (ki 3)) (n_neq (i := a7.length) (j := 3) rfl rfl) ?_
  refine jf (.d2 (.k3 (.i 111 (vb (!decide (a7.length = 3))) .n))) ?_
  refine tc h (fun c21 h => ?_) (fun c21 h => ?_)
  ·refine sk (.i 4 .emp (.i 5 (vb false) .n)) ?_
   refine q3 ?_
   have h := si h
   subst h
   exact DoneS.ret (S' := ⟨[(4, .emp), (5, vb false)], [none, none, none]⟩) (sc [0, 1, 2] (by decide) (by kernel_rfl) (.skip (.skip (.skip .nil))) rfl rfl) rfl rfl
  refine q2 ?_
  refine sj ?_
  refine rk 1 (.k3 (.i 113 (eS 1 vt a7) .n)) ?_
  refine cK h fun c22 h => ?_
  refine jo 114 (.iaddr 1 113 (ki 2)) (ok_iaddr_m (j := 2) rfl rfl rfl c22) ?_
  refine jo 115 (.load false 1 114) (ok_load_fm (v := vt (ix a7 2)) rfl c22 rfl) ?_
  refine bK h fun y3 hy3 h => ?_
  refine jc 116 [115, (ki 10)] (restore_number_ok n (ix a7 2) 10 y3 hy3) ?_
  refine jk 5 (.d3 (.k3 (.i 11 (vi y3.1) (.i 12 (vb y3.2) .n)))) ?_
  refine q1 ?_
  refine sk (.k4 (.i 120 (vb (!y3.2)) .n)) ?_
  refine tc h (fun c23 h => ?_) (fun c23 h => ?_)
  ·refine sk (.i 4 .emp (.i 5 (vb false) .n)) ?_
   refine q3 ?_
   have h := si h
   subst h
   exact DoneS.ret (S' := ⟨[(4, .emp), (5, vb false)], [none, none, none]⟩) (sc [0, 1, 2] (by decide) (by kernel_rfl) (.skip (.skip (.skip .nil))) rfl rfl) rfl rfl
  refine q2 ?_
  refine ts (.k4 .n) ?_
  refine TriE.draw (by kernel_rfl) ?_
  refine dk 4 (.i 124 (.ptr 3 (a0.length - 1) 5) (.i 123 (.ptr 3 (a0.length - 1) 0) (.i 122 (.ptr 3 (a0.length - 1) 0) (.i 121 (.ptr 3 (a0.length - 1) 0) .a)))) ?_
  refine dp 125 (.load false 1 124) (ok_load_set (l := a0) (e := eTask) (v := .own 5 0 a6.length) rfl rfl (last_lt c10) rfl) ?_
  refine dk 1 (.i 126 (eS 1 vt a7) .a) ?_
  refine cK h fun c24 h => ?_
  refine dp 127 (.iaddr 1 126 (ki 1)) (ok_iaddr_m (j := 1) rfl rfl rfl c24) ?_
  refine dp 128 (.load false 1 127) (ok_load_fm (v := vt (ix a7 1)) rfl c24 rfl) ?_
  refine dko 3 (.i 131 (.own 16 0 1) (.i 130 (.agg [vt (ix a7 1), vi y3.1]) (.i 129 (vi y3.1) .a))) [none, none, none, some (.row 6 (List.set (List.map eTask a0) (a0.length - 1) (.agg [vt a1, vi a2, vi a3, eS 1 vt a4, .own 4 0 a5.length, .own 5 0 a6.length]))), some (.row 1 (List.map (eS 1 vt) a5)), some (.row 2 (List.map ePartCount a6)), none, none, none, none, none, none, none, none, none, none, some (.row 2 [.agg [vt (ix a7 1), vi y3.1]])] ?_
  refine cK h fun c25 h => ?_
  refine dx 132 (.app 2 24 125 131) [none, none, none, some (.row 6 (List.set (List.map eTask a0) (a0.length - 1) (.agg [vt a1, vi a2, vi a3, eS 1 vt a4, .own 4 0 a5.length, .own 5 0 a6.length]))), some (.row 1 (List.map (eS 1 vt) a5)), none, none, none, none, none, none, none, none, none, none, none, some (.row 2 [.agg [vt (ix a7 1), vi y3.1]]), some (.row 2 (List.map ePartCount (a6 ++ ([(PartCount.mk (ix a7 1) y3.1)] : List PartCount))))] (ok_app_own (l := a6) (l2 := ([(PartCount.mk (ix a7 1) y3.1)] : List PartCount)) (e := ePartCount) (u := .own 16 0 1) rfl rfl rfl rfl rfl c25) rfl rfl ?_
  refine dk 2 (.i 134 (.ptr 3 (a0.length - 1) 5) (.i 133 (.ptr 3 (a0.length - 1) 0) .a)) ?_
  refine dm (.store 1 134 132) [none, none, none, some (.row 6 (List.set (List.map eTask a0) (a0.length - 1) (.agg [vt a1, vi a2, vi a3, eS 1 vt a4, .own 4 0 a5.length, .own 17 0 ((a6 ++ ([(PartCount.mk (ix a7 1) y3.1)] : List PartCount)).length)]))), some (.row 1 (List.map (eS 1 vt) a5)), none, none, none, none, none, none, none, none, none, none, none, some (.row 2 [.agg [vt (ix a7 1), vi y3.1]]), some (.row 2 (List.map ePartCount (a6 ++ ([(PartCount.mk (ix a7 1) y3.1)] : List PartCount)))), none, none, none] (ok_store_s (l := a0) (e := eTask) (X' := .agg [vt a1, vi a2, vi a3, eS 1 vt a4, .own 4 0 a5.length, .own 17 0 ((a6 ++ ([(PartCount.mk (ix a7 1) y3.1)] : List PartCount)).length)]) (u := .own 17 0 ((a6 ++ ([(PartCount.mk (ix a7 1) y3.1)] : List PartCount)).length)) rfl rfl rfl (last_lt c10) rfl rfl) rfl rfl ?_
  refine dfi (ob' := [none, none, none, some (.row 6 (List.set (List.map eTask a0) (a0.length - 1) (.agg [vt a1, vi a2, vi a3, eS 1 vt a4, .own 4 0 a5.length, .own 5 0 ((a6 ++ ([(PartCount.mk (ix a7 1) y3.1)] : List PartCount)).length)]))), some (.row 1 (List.map (eS 1 vt) a5)), some (.row 2 (List.map ePartCount (a6 ++ ([(PartCount.mk (ix a7 1) y3.1)] : List PartCount))))]) (.d4 (.d4 (.d4 (.d2 (.k .n))))) [0, 1, 2, 3, 4, 17] (.skip (.skip (.skip (obRen_set eTask_frz rfl rfl (obRen_row (eS_frz 1 vt) rfl (obRen_row ePartCount_frz rfl .nil)))))) ?_
  refine sk (.i 4 (.own 3 0 a0.length) (.i 5 (vb true) .n)) ?_
  refine q3 ?_
  have h := si h
  subst h
  exact DoneS.ret Sees.refl rfl rfl
 refine sk (.i 4 .emp (.i 5 (vb false) .n)) ?_
 refine q3 ?_
 have h := si h
 subst h
 exact DoneS.ret (S' := ⟨[(4, .emp), (5, vb false)], [none, none, none]⟩) (sc [0, 1, 2] (by decide) (by kernel_rfl) (.skip (.skip (.skip .nil))) rfl rfl) rfl rfl
set_option maxHeartbeats 1000000 in
theorem restore_Parse_ok (n : Nat) (a0 : Str) (r : Int × Int × (List Task)) (h : restore_Parse n a0 = some r) : FnL Tryz.prog 25 [vt a0] [] (.tup [eS 6 eTask r.2.2, vi r.1, vi r.2.1]) [] := by
 dsimp only [restore_Parse] at h
 refine FnL.ofC [.cell 2 46, .cell 3 3, .cell 4 28] Tryz.call25 Tryz.func25 rfl .nil ?_ (hl := rfl)
 refine sko (.k (.i 2 (.ptr 0 0 0) (.i 3 (.ptr 1 0 0) (.i 4 (.ptr 2 0 0) .n)))) [some (.row 1 [.emp]), some (.row 1 [vi 0]), some (.row 1 [vi 0])] ?_
 refine q1 ?_
 refine sj ?_
 refine rk 1 (.k4 (.i 12 (vt a0) .n)) ?_
 refine jo 13 (.len 1 12) (ok_len_t rfl) ?_
 refine jo 14 (.bin .gtr false 13 (ki 60000)) (n_gtr (i := a0.length) (j := 60000) rfl rfl) ?_
 refine jf (.d2 (.k4 (.i 14 (vb (decide (60000 < a0.length))) .n))) ?_
 refine tc h (fun c1 h => ?_) (fun c1 h => ?_)
 ·refine sko (.d (.k3 .n)) [some (.row 1 [.emp]), some (.row 1 [vi 0]), some (.row 1 [vi 8])] ?_
  refine q3 ?_
  have h := si h
  subst h
  exact DoneC.ret (S' := ⟨[(2, eS 6 eTask ([] : List Task)), (3, vi 0), (4, vi 8)], []⟩) [.emp, vi 0, vi 8] (Sees.trans (Sees.vco (fr' := [(2, eS 6 eTask ([] : List Task)), (3, vi 0), (4, vi 8)]) (.cons .sl (.cons .same (.cons .same .nil)))) (sc [] (by decide) (by kernel_rfl) ObRen.nil rfl rfl)) rfl rfl
 refine q2 ?_
 refine sko (.k4 (.i 5 (.ptr 3 0 0) .n)) [some (.row 1 [.emp]), some (.row 1 [vi 0]), some (.row 1 [vi 0]), some (.row 1 [.emp])] ?_
 refine sko (.k4 (.k (.i 6 (.ptr 4 0 0) .n))) [some (.row 1 [.emp]), some (.row 1 [vi 0]), some (.row 1 [vi 0]), some (.row 1 [.emp]), some (.row 1 [vi 0])] ?_
 refine TriE.seqK h (fun (t : (List Task) × Str × Int × Int × (List Str) × (List PartCount) × (List (List Str))) => match t with | (v44, v45, v46, v47, v48, v49, v50) => St.mk [(2, .ptr 0 0 0), (3, .ptr 1 0 0), (4, .ptr 2 0 0), (5, .ptr 3 0 0)] [some (.row 1 [.emp]), some (.row 1 [vi 0]), some (.row 1 [vi 0]), some (.row 1 [.own 4 0 v44.length]), some (.row 6 (List.set (List.map eTask v44) (v44.length - 1) (.agg [vt v45, vi v46, vi v47, eS 1 vt v48, .own 5 0 v50.length, .own 6 0 v49.length]))), some (.row 1 (List.map (eS 1 vt) v50)), some (.row 2 (List.map ePartCount v49))]) ?_ ?_
 ·rintro ⟨v44, v45, v46, v47, v48, v49, v50⟩ h
  refine q1 ?_
  refine sj ?_
  refine rk 1 (.k4 (.i 39 (.own 4 0 v44.length) .n)) ?_
  refine RegJ.sees (Sees.freezeO 5 (fr' := [(2, .ptr 0 0 0), (3, .ptr 1 0 0), (4, .ptr 2 0 0), (5, .ptr 3 0 0), (39, .own 4 0 v44.length)]) (ob' := [some (.row 1 [.emp]), some (.row 1 [vi 0]), some (.row 1 [vi 0]), some (.row 1 [.own 4 0 v44.length]), some (.row 6 (List.set (List.map eTask v44) (v44.length - 1) (.agg [vt v45, vi v46, vi v47, eS 1 vt v48, eS 1 (eS 1 vt) v50, .own 6 0 v49.length]))), none, some (.row 2 (List.map ePartCount v49))]) rfl (frz_row (eS_frzE 1 vt) _) (.cons (.refl _) (.cons (.refl _) (.cons (.refl _) (.cons (.refl _) (.cons (.refl _) .nil))))) (.cons .same (.cons .same (.cons .same (.cons .same (.cons (objFrz_set (fun _ => rfl) (.cons (.refl _) (.cons (.refl _) (.cons (.refl _) (.cons (.refl _) (.cons (frz_full rfl) (.cons (.refl _) .nil)))))) rfl) (.cons .same (.cons .same .nil)))))))) ?_
  refine RegJ.sees (Sees.freezeO 6 (fr' := [(2, .ptr 0 0 0), (3, .ptr 1 0 0), (4, .ptr 2 0 0), (5, .ptr 3 0 0), (39, .own 4 0 v44.length)]) (ob' := [some (.row 1 [.emp]), some (.row 1 [vi 0]), some (.row 1 [vi 0]), some (.row 1 [.own 4 0 v44.length]), some (.row 6 (List.set (List.map eTask v44) (v44.length - 1) (.agg [vt v45, vi v46, vi v47, eS 1 vt v48, eS 1 (eS 1 vt) v50, eS 2 ePartCount v49]))), none, none]) rfl (frz_row ePartCount_frzE _) (.cons (.refl _) (.cons (.refl _) (.cons (.refl _) (.cons (.refl _) (.cons (.refl _) .nil))))) (.cons .same (.cons .same (.cons .same (.cons .same (.cons (objFrz_set (fun _ => rfl) (.cons (.refl _) (.cons (.refl _) (.cons (.refl _) (.cons (.refl _) (.cons (.refl _) (.cons (frz_full rfl) .nil)))))) rfl) (.cons .same (.cons .same .nil)))))))) ?_
  refine RegJ.sees (Sees.obco (ob' := [some (.row 1 [.emp]), some (.row 1 [vi 0]), some (.row 1 [vi 0]), some (.row 1 [.own 4 0 v44.length]), some (.row 6 (List.map eTask (List.set v44 (v44.length - 1) (Task.mk v45 v46 v47 v48 v50 v49)))), none, none]) (.cons .same (.cons .same (.cons .same (.cons .same (.cons (objCo_set (fun _ => rfl) (.cons .same (.cons .same (.cons .same (.cons .same (.cons .same (.cons .same .nil))))))) (.cons .same (.cons .same .nil)))))))) ?_
  refine RegJ.sees (Sees.freezeO 4 (fr' := [(2, .ptr 0 0 0), (3, .ptr 1 0 0), (4, .ptr 2 0 0), (5, .ptr 3 0 0), (39, eS 6 eTask (List.set v44 (v44.length - 1) (Task.mk v45 v46 v47 v48 v50 v49)))]) (ob' := [some (.row 1 [.emp]), some (.row 1 [vi 0]), some (.row 1 [vi 0]), some (.row 1 [eS 6 eTask (List.set v44 (v44.length - 1) (Task.mk v45 v46 v47 v48 v50 v49))]), none, none, none]) rfl (frz_row eTask_frzE _) (.cons (.refl _) (.cons (.refl _) (.cons (.refl _) (.cons (.refl _) (.cons (frz_full (by simp)) .nil))))) (.cons .same (.cons .same (.cons .same (.cons (objFrz_cell (.cons (frz_full (by simp)) .nil) rfl) (.cons .same (.cons .same (.cons .same .nil)))))))) ?_
  refine bK h fun y51 hy51 h => ?_
  refine jc 40 [39] (restore_CheckTasks_ok n (List.set v44 (v44.length - 1) (Task.mk v45 v46 v47 v48 v50 v49)) y51 hy51) ?_
  refine jk 1 (.d (.k4 (.i 11 (vi y51) .n))) ?_
  refine sk (.k4 (.k (.i 42 (vb (y51 != (0 : Int))) .n))) ?_
  refine tc h (fun c5 h => ?_) (fun c5 h => ?_)
  ·refine sko (.k3 .n) [some (.row 1 [.emp]), some (.row 1 [vi 0]), some (.row 1 [vi y51]), some (.row 1 [eS 6 eTask (List.set v44 (v44.length - 1) (Task.mk v45 v46 v47 v48 v50 v49))]), none, none, none] ?_
   refine q3 ?_
   have h := si h
   subst h
   exact DoneC.ret (S' := ⟨[(2, eS 6 eTask ([] : List Task)), (3, vi 0), (4, vi y51)], []⟩) [.emp, vi 0, vi y51] (Sees.trans (Sees.vco (fr' := [(2, eS 6 eTask ([] : List Task)), (3, vi 0), (4, vi y51)]) (.cons .sl (.cons .same (.cons .same .nil)))) (sc [] (by decide) (by kernel_rfl) ObRen.nil rfl rfl)) rfl rfl
  refine q2 ?_
  refine sko (.k3 .n) [some (.row 1 [eS 6 eTask (List.set v44 (v44.length - 1) (Task.mk v45 v46 v47 v48 v50 v49))]), some (.row 1 [vi 0]), some (.row 1 [vi 0]), some (.row 1 [eS 6 eTask (List.set v44 (v44.length - 1) (Task.mk v45 v46 v47 v48 v50 v49))]), none, none, none] ?_
  refine q3 ?_
  have h := si h
  subst h
  exact DoneC.ret (S' := ⟨[(2, eS 6 eTask (List.set v44 (v44.length - 1) (Task.mk v45 v46 v47 v48 v50 v49))), (3, vi 0), (4, vi 0)], []⟩) [eS 6 eTask (List.set v44 (v44.length - 1) (Task.mk v45 v46 v47 v48 v50 v49)), vi 0, vi 0] (sc [] (by decide) (by kernel_rfl) ObRen.nil rfl rfl) rfl rfl
 intro k2 h
 refine sj ?_
 refine rk 1 (.d (.k4 (.k (.i 15 (vt a0) .n)))) ?_
 refine bK h fun y1 hy1 h => ?_
 refine jco (.fn (.func 117) [] [.ptr 5 0 0]) 16 [15] (strings_Lines_ok n a0 y1 hy1) [] rfl ObsRen.nil (.cons rfl .nil) rfl ?_
 refine jf (.d (.k4 (.k (.i 16 (.fn (.func 117) [] [.ptr 5 0 0]) .n)))) ?_
 refine q4 ?_
 refine cK h fun c2 h => ?_
 refine TriE.sees (S' := ⟨[(2, .ptr 0 0 0), (3, .ptr 1 0 0), (4, .ptr 2 0 0), (5, .ptr 3 0 0), (6, .ptr 4 0 0), (16, .fn (.func 117) [] [.ptr 5 0 0])], [some (.row 1 [.emp]), some (.row 1 [vi 0]), some (.row 1 [vi 0]), some (.row 1 [.own 6 0 ([] : List Task).length]), some (.row 1 [vi 0]), some (.row 1 [vt a0]), some (.row 6 (List.set (List.map eTask ([] : List Task)) (([] : List Task).length - 1) (.agg [vt ([] : Str), vi 0, vi 0, eS 1 vt ([] : List Str), .own 7 0 ([] : List (List Str)).length, .own 8 0 ([] : List PartCount).length]))), some (.row 1 (List.map (eS 1 vt) ([] : List (List Str)))), some (.row 2 (List.map ePartCount ([] : List PartCount)))]⟩) (Sees.trans (Sees.co (fr' := [(2, .ptr 0 0 0), (3, .ptr 1 0 0), (4, .ptr 2 0 0), (5, .ptr 3 0 0), (6, .ptr 4 0 0), (16, .fn (.func 117) [] [.ptr 5 0 0])]) (ob' := [some (.row 1 [.emp]), some (.row 1 [vi 0]), some (.row 1 [vi 0]), some (.row 1 [.own 6 0 0]), some (.row 1 [vi 0]), some (.row 1 [vt a0])]) (.cons .same (.cons .same (.cons .same (.cons .same (.cons .same (.cons .same .nil)))))) (.same (.same (.same (.cell (.cons .own .nil) rfl (.same (.same .nil)))))) 6) (Sees.trans (Sees.co (fr' := [(2, .ptr 0 0 0), (3, .ptr 1 0 0), (4, .ptr 2 0 0), (5, .ptr 3 0 0), (6, .ptr 4 0 0), (16, .fn (.func 117) [] [.ptr 5 0 0])]) (ob' := [some (.row 1 [.emp]), some (.row 1 [vi 0]), some (.row 1 [vi 0]), some (.row 1 [.own 6 0 0]), some (.row 1 [vi 0]), some (.row 1 [vt a0]), some (.row 6 (List.map eTask ([] : List Task)))]) (.cons .same (.cons .same (.cons .same (.cons .same (.cons .same (.cons .same .nil)))))) (.same (.same (.same (.same (.same (.same (.same .nil))))))) 1) (Sees.trans (Sees.co (fr' := [(2, .ptr 0 0 0), (3, .ptr 1 0 0), (4, .ptr 2 0 0), (5, .ptr 3 0 0), (6, .ptr 4 0 0), (16, .fn (.func 117) [] [.ptr 5 0 0])]) (ob' := [some (.row 1 [.emp]), some (.row 1 [vi 0]), some (.row 1 [vi 0]), some (.row 1 [.own 6 0 0]), some (.row 1 [vi 0]), some (.row 1 [vt a0]), some (.row 6 (List.map eTask ([] : List Task))), some (.row 1 (List.map (eS 1 vt) ([] : List (List Str))))]) (.cons .same (.cons .same (.cons .same (.cons .same (.cons .same (.cons .same .nil)))))) (.same (.same (.same (.same (.same (.same (.same (.same .nil)))))))) 2) sy))) ?_
 refine TriE.linesV (tg := 16) (p := 17) (gf := 117) (nc := 5) (frE := [(2, .ptr 0 0 0), (3, .ptr 1 0 0), (4, .ptr 2 0 0), (5, .ptr 3 0 0), (6, .ptr 4 0 0), (16, .fn (.func 117) [] [.ptr 5 0 0])]) h (fun (r2 : Str) (t : Nat × (List Task) × Str × Int × Int × (List Str) × (List (List Str)) × (List PartCount)) => match t with | (v12, v13, v14, v15, v16, v29, v30, v31) => [some (.row 1 [.emp]), some (.row 1 [vi 0]), some (.row 1 [vi 0]), some (.row 1 [.own 6 0 v13.length]), some (.row 1 [vi v12]), some (.row 1 [vt r2]), some (.row 6 (List.set (List.map eTask v13) (v13.length - 1) (.agg [vt v14, vi v15, vi v16, eS 1 vt v29, .own 7 0 v30.length, .own 8 0 v31.length]))), some (.row 1 (List.map (eS 1 vt) v30)), some (.row 2 (List.map ePartCount v31))]) (fun x32 => [(2, .ptr 0 0 0), (3, .ptr 1 0 0), (4, .ptr 2 0 0), (5, .ptr 3 0 0), (6, .ptr 4 0 0), (16, .fn (.func 117) [] [.ptr 5 0 0]), (7, vt x32)]) rfl lines1 Tryz.call117 rfl (fun r ⟨v12, v13, v14, v15, v16, v29, v30, v31⟩ => rfl) (fun r r2 ⟨v12, v13, v14, v15, v16, v29, v30, v31⟩ => rfl) rfl c2 ?_ ?_ ?_
 ·rintro l x32 r2 ⟨v12, v13, v14, v15, v16, v29, v30, v31⟩
  refine tk (.d (.k4 (.k2 (.i 7 (vt x32) .n)))) ?_
  exact ⟨rfl, rfl⟩
 ·rintro l x32 r2 ⟨v12, v13, v14, v15, v16, v29, v30, v31⟩ back h
  dsimp only [restore_Parse_L1] at h
  show TriE _ _ _ 9 _ (St.mk [(2, .ptr 0 0 0), (3, .ptr 1 0 0), (4, .ptr 2 0 0), (5, .ptr 3 0 0), (6, .ptr 4 0 0), (16, .fn (.func 117) [] [.ptr 5 0 0]), (7, vt x32)] [some (.row 1 [.emp]), some (.row 1 [vi 0]), some (.row 1 [vi 0]), some (.row 1 [.own 6 0 v13.length]), some (.row 1 [vi v12]), some (.row 1 [vt r2]), some (.row 6 (List.set (List.map eTask v13) (v13.length - 1) (.agg [vt v14, vi v15, vi v16, eS 1 vt v29, .own 7 0 v30.length, .own 8 0 v31.length]))), some (.row 1 (List.map (eS 1 vt) v30)), some (.row 2 (List.map ePartCount v31))]) _
  refine q4 ?_
  refine sj ?_
  refine rn 1 [(2, .ptr 0 0 0), (3, .ptr 1 0 0), (4, .ptr 2 0 0), (5, .ptr 3 0 0), (6, .ptr 4 0 0), (16, .fn (.func 117) [] [.ptr 5 0 0]), (7, vt x32), (18, vi v12)] [some (.row 1 [.emp]), some (.row 1 [vi 0]), some (.row 1 [vi 0]), some (.row 1 [.own 6 0 v13.length]), some (.row 1 [vi v12]), some (.row 1 [vt r2]), some (.row 6 (List.set (List.map eTask v13) (v13.length - 1) (.agg [vt v14, vi v15, vi v16, eS 1 vt v29, .own 7 0 v30.length, .own 8 0 v31.length]))), some (.row 1 (List.map (eS 1 vt) v30)), some (.row 2 (List.map ePartCount v31))] ?_
  refine cK h fun c3 h => ?_
  refine jo 19 (.bin .add false 18 (ki 1)) (r_addn (i := v12) (j := 1) rfl rfl c3) ?_
  refine jko 1 (.d (.k4 (.k3 .n))) [some (.row 1 [.emp]), some (.row 1 [vi 0]), some (.row 1 [vi 0]), some (.row 1 [.own 6 0 v13.length]), some (.row 1 [vi ((v12 + 1 : Nat) : Int)]), some (.row 1 [vt r2]), some (.row 6 (List.set (List.map eTask v13) (v13.length - 1) (.agg [vt v14, vi v15, vi v16, eS 1 vt v29, .own 7 0 v30.length, .own 8 0 v31.length]))), some (.row 1 (List.map (eS 1 vt) v30)), some (.row 2 (List.map ePartCount v31))] ?_
  refine sj ?_
  refine rk 1 (.k4 (.k2 (.i 21 (vt x32) .n))) ?_
  refine bK h fun y33 hy33 h => ?_
  refine jc 22 [21, (.c (.p (.string ⟨#[10]⟩)))] (strings_CutSuffix_ok n x32 ([10] : Str) y33 hy33) ?_
  refine jk 5 (.d (.k4 (.k2 (.i 8 (vt y33.1) (.i 9 (vb y33.2) .n))))) ?_
  refine sk .a ?_
  refine TriE.seqK h (fun (t : Bool × (List Task) × Str × Int × Int × (List Str) × (List (List Str)) × (List PartCount)) => match t with | (v36, v37, v38, v39, v40, v41, v42, v43) => St.mk [(2, .ptr 0 0 0), (3, .ptr 1 0 0), (4, .ptr 2 0 0), (5, .ptr 3 0 0), (6, .ptr 4 0 0), (16, .fn (.func 117) [] [.ptr 5 0 0]), (9, vb y33.2), (10, vb v36)] [some (.row 1 [.emp]), some (.row 1 [vi 0]), some (.row 1 [vi 0]), some (.row 1 [.own 9 0 v37.length]), some (.row 1 [vi ((v12 + 1 : Nat) : Int)]), some (.row 1 [vt r2]), none, none, none, some (.row 6 (List.set (List.map eTask v37) (v37.length - 1) (.agg [vt v38, vi v39, vi v40, eS 1 vt v41, .own 10 0 v42.length, .own 11 0 v43.length]))), some (.row 1 (List.map (eS 1 vt) v42)), some (.row 2 (List.map ePartCount v43))]) ?_ ?_
  ·rintro ⟨v36, v37, v38, v39, v40, v41, v42, v43⟩ h
   refine sj ?_
   refine rk 3 (.k4 (.k3 (.i 34 (vb (!v36)) .n))) ?_
   refine gj (vb y33.2) 35 (.mov 9) 34 false rfl ?_
   refine gk (vb (!y33.2)) 36 (.un .not 35) 34 false rfl (fun hg => (.cons hg .nil)) ?_
   refine po 37 34 36 rfl rfl ?_
   refine jf (.d3 (.k4 (.k2 (.i 37 (vb ((!v36) || (!y33.2))) .n)))) ?_
   refine tc h (fun c4 h => ?_) (fun c4 h => ?_)
   ·refine q1 ?_
    refine ts (.k3 (.d (.k .n))) ?_
    refine TriE.draw (by kernel_rfl) ?_
    refine dko 4 (.i 38 (vi ((v12 + 1 : Nat) : Int)) .a) [some (.row 1 [.emp]), some (.row 1 [vi ((v12 + 1 : Nat) : Int)]), some (.row 1 [vi 7]), some (.row 1 [.own 9 0 v37.length]), some (.row 1 [vi ((v12 + 1 : Nat) : Int)]), some (.row 1 [vt r2]), none, none, none, some (.row 6 (List.set (List.map eTask v37) (v37.length - 1) (.agg [vt v38, vi v39, vi v40, eS 1 vt v41, .own 10 0 v42.length, .own 11 0 v43.length]))), some (.row 1 (List.map (eS 1 vt) v42)), some (.row 2 (List.map ePartCount v43)), none, none, none, none] ?_
    refine dfi (ob' := [some (.row 1 [.emp]), some (.row 1 [vi ((v12 + 1 : Nat) : Int)]), some (.row 1 [vi 7]), some (.row 1 [.own 9 0 v37.length]), some (.row 1 [vi ((v12 + 1 : Nat) : Int)]), some (.row 1 [vt r2]), none, none, none, some (.row 6 (List.set (List.map eTask v37) (v37.length - 1) (.agg [vt v38, vi v39, vi v40, eS 1 vt v41, .own 10 0 v42.length, .own 11 0 v43.length]))), some (.row 1 (List.map (eS 1 vt) v42)), some (.row 2 (List.map ePartCount v43))]) (.d (.k3 .n)) [0, 1, 2, 3, 4, 5, 6, 7, 8, 9, 10, 11] (.cons rfl (.cons rfl (.cons rfl (.cons rfl (.cons rfl (.cons rfl (.skip (.skip (.skip (obRen_set eTask_frz rfl rfl (obRen_row (eS_frz 1 vt) rfl (obRen_row ePartCount_frz rfl .nil)))))))))))) ?_
    refine q3 ?_
    refine jmp_ret ?_
    have h := si h
    subst h
    exact DoneC.ret (S' := ⟨[(2, eS 6 eTask ([] : List Task)), (3, vi ((v12 + 1 : Nat) : Int)), (4, vi 7)], []⟩) [.emp, vi ((v12 + 1 : Nat) : Int), vi 7] (Sees.trans (Sees.vco (fr' := [(2, eS 6 eTask ([] : List Task)), (3, vi ((v12 + 1 : Nat) : Int)), (4, vi 7)]) (.cons .sl (.cons .same (.cons .same .nil)))) (sc [] (by decide) (by kernel_rfl) ObRen.nil rfl rfl)) rfl rfl
   refine q2 ?_
   exact jmp_back (v12 + 1, v37, v38, v39, v40, v41, v42, v43) Sees.refl (Cov.mk2 (rs := [0, 1, 2, 3, 4, 5, 9, 10, 11]) (by decide) rfl rfl (.cons (.inl rfl) (.cons (.inl rfl) (.cons (.inl rfl) (.cons (.inl rfl) (.cons (.inl rfl) (.cons (.inl rfl) .nil)))))) (.cons rfl (.cons rfl (.cons rfl (.cons rfl (.cons rfl (.cons rfl (obRen_set eTask_frz rfl rfl (obRen_row (eS_frz 1 vt) rfl (obRen_row ePartCount_frz rfl .nil)))))))))) h
  intro k1 h
  refine ts .a ?_
  refine TriE.draw (by kernel_rfl) ?_
  refine dk 2 (.i 27 (vt y33.1) (.i 26 (.own 6 0 v13.length) .a)) ?_
  refine bK h fun y34 hy34 h => ?_
  refine dc (eS 1 vt y34) 0 28 [27, (.c (.p (.string ⟨#[32]⟩)))] (strings_Split_ok n y33.1 ([32] : Str) y34 hy34) [] rfl ObsRen.nil ObsRen.nil rfl (.inr ⟨rfl, rfl⟩) ?_
  refine bK h fun y35 hy35 h => ?_
  rcases y35 with y35 | y35
  ·dsimp only at h
   refine dc (.tup [.emp, vb false]) 0 29 [26, 28] (restore_read_3_ok n v13 v14 v15 v16 v29 v30 v31 y34 (Sum.inl y35) hy35) [6, 7, 8] rfl (.cons (row_ren_set eTask_frz rfl) (.same (row_ren (eS_frz 1 vt) _ _ _) (.same (row_ren ePartCount_frz _ _ _) .nil))) (.cons rfl (.cons rfl (.cons rfl .nil))) rfl (.inl rfl) ?_
   refine dko 5 (.i 10 (vb false) (.i 31 (vb false) (.i 30 .emp (.i 25 (.tup [.emp, vb false]) .a)))) [some (.row 1 [.emp]), some (.row 1 [vi 0]), some (.row 1 [vi 0]), some (.row 1 [.emp]), some (.row 1 [vi ((v12 + 1 : Nat) : Int)]), some (.row 1 [vt r2]), none, none, none, none, none, none, none, none, none, none, none, none] ?_
   refine dfi (ob' := [some (.row 1 [.emp]), some (.row 1 [vi 0]), some (.row 1 [vi 0]), some (.row 1 [.emp]), some (.row 1 [vi ((v12 + 1 : Nat) : Int)]), some (.row 1 [vt r2]), none, none, none]) (.d4 (.d4 (.k4 (.k2 (.d (.k (.i 10 (vb false) .n))))))) [0, 1, 2, 3, 4, 5, 6, 7, 8] (.cons rfl (.cons rfl (.cons rfl (.cons rfl (.cons rfl (.cons rfl (.skip (.skip (.skip .nil))))))))) ?_
   exact Vs.intro (Sees.trans (Sees.co (fr' := [(2, .ptr 0 0 0), (3, .ptr 1 0 0), (4, .ptr 2 0 0), (5, .ptr 3 0 0), (6, .ptr 4 0 0), (16, .fn (.func 117) [] [.ptr 5 0 0]), (9, vb y33.2), (10, vb false)]) (ob' := [some (.row 1 [.emp]), some (.row 1 [vi 0]), some (.row 1 [vi 0]), some (.row 1 [.own 9 0 0]), some (.row 1 [vi ((v12 + 1 : Nat) : Int)]), some (.row 1 [vt r2]), none, none, none]) (.cons .same (.cons .same (.cons .same (.cons .same (.cons .same (.cons .same (.cons .same (.cons .same .nil)))))))) (.same (.same (.same (.cell (.cons .own .nil) rfl (.same (.same (.same (.same (.same .nil))))))))) 6) (Sees.trans (Sees.co (fr' := [(2, .ptr 0 0 0), (3, .ptr 1 0 0), (4, .ptr 2 0 0), (5, .ptr 3 0 0), (6, .ptr 4 0 0), (16, .fn (.func 117) [] [.ptr 5 0 0]), (9, vb y33.2), (10, vb false)]) (ob' := [some (.row 1 [.emp]), some (.row 1 [vi 0]), some (.row 1 [vi 0]), some (.row 1 [.own 9 0 0]), some (.row 1 [vi ((v12 + 1 : Nat) : Int)]), some (.row 1 [vt r2]), none, none, none, some (.row 6 (List.map eTask ([] : List Task)))]) (.cons .same (.cons .same (.cons .same (.cons .same (.cons .same (.cons .same (.cons .same (.cons .same .nil)))))))) (.same (.same (.same (.same (.same (.same (.same (.same (.same (.same .nil)))))))))) 1) (Sees.trans (Sees.co (fr' := [(2, .ptr 0 0 0), (3, .ptr 1 0 0), (4, .ptr 2 0 0), (5, .ptr 3 0 0), (6, .ptr 4 0 0), (16, .fn (.func 117) [] [.ptr 5 0 0]), (9, vb y33.2), (10, vb false)]) (ob' := [some (.row 1 [.emp]), some (.row 1 [vi 0]), some (.row 1 [vi 0]), some (.row 1 [.own 9 0 0]), some (.row 1 [vi ((v12 + 1 : Nat) : Int)]), some (.row 1 [vt r2]), none, none, none, some (.row 6 (List.map eTask ([] : List Task))), some (.row 1 (List.map (eS 1 vt) ([] : List (List Str))))]) (.cons .same (.cons .same (.cons .same (.cons .same (.cons .same (.cons .same (.cons .same (.cons .same .nil)))))))) (.same (.same (.same (.same (.same (.same (.same (.same (.same (.same (.same .nil))))))))))) 2) sy))) ⟨(false, ([] : List Task), ([] : Str), 0, 0, ([] : List Str), ([] : List (List Str)), ([] : List PartCount)), rfl, h⟩
  dsimp only at h
  refine dc (.tup [.own 12 0 y35.2.1.length, vb y35.1]) 3 29 [26, 28] (restore_read_3_ok n v13 v14 v15 v16 v29 v30 v31 y34 (Sum.inr y35) hy35) [6, 7, 8] rfl (.cons (row_ren_set eTask_frz rfl) (.same (row_ren (eS_frz 1 vt) _ _ _) (.same (row_ren ePartCount_frz _ _ _) .nil))) (.cons rfl (.cons rfl (.cons rfl (.cons (row_ren_set eTask_frz rfl) (.same (row_ren (eS_frz 1 vt) _ _ _) (.same (row_ren ePartCount_frz _ _ _) .nil)))))) rfl (.inl rfl) ?_
  refine dko 5 (.i 10 (vb y35.1) (.i 31 (vb y35.1) (.i 30 (.own 12 0 y35.2.1.length) (.i 25 (.tup [.own 12 0 y35.2.1.length, vb y35.1]) .a)))) [some (.row 1 [.emp]), some (.row 1 [vi 0]), some (.row 1 [vi 0]), some (.row 1 [.own 12 0 y35.2.1.length]), some (.row 1 [vi ((v12 + 1 : Nat) : Int)]), some (.row 1 [vt r2]), none, none, none, none, none, none, some (.row 6 (List.set (List.map eTask y35.2.1) (y35.2.1.length - 1) (.agg [vt y35.2.2.2.2.1, vi y35.2.2.1, vi y35.2.2.2.1, eS 1 vt y35.2.2.2.2.2.1, .own 13 0 y35.2.2.2.2.2.2.1.length, .own 14 0 y35.2.2.2.2.2.2.2.length]))), some (.row 1 (List.map (eS 1 vt) y35.2.2.2.2.2.2.1)), some (.row 2 (List.map ePartCount y35.2.2.2.2.2.2.2)), none, none, none, none, none, none] ?_
  refine dfi (ob' := [some (.row 1 [.emp]), some (.row 1 [vi 0]), some (.row 1 [vi 0]), some (.row 1 [.own 9 0 y35.2.1.length]), some (.row 1 [vi ((v12 + 1 : Nat) : Int)]), some (.row 1 [vt r2]), none, none, none, some (.row 6 (List.set (List.map eTask y35.2.1) (y35.2.1.length - 1) (.agg [vt y35.2.2.2.2.1, vi y35.2.2.1, vi y35.2.2.2.1, eS 1 vt y35.2.2.2.2.2.1, .own 10 0 y35.2.2.2.2.2.2.1.length, .own 11 0 y35.2.2.2.2.2.2.2.length]))), some (.row 1 (List.map (eS 1 vt) y35.2.2.2.2.2.2.1)), some (.row 2 (List.map ePartCount y35.2.2.2.2.2.2.2))]) (.d4 (.d4 (.k4 (.k2 (.d (.k (.i 10 (vb y35.1) .n))))))) [0, 1, 2, 3, 4, 5, 6, 7, 8, 12, 13, 14] (.cons rfl (.cons rfl (.cons rfl (.cons rfl (.cons rfl (.cons rfl (.skip (.skip (.skip (obRen_set eTask_frz rfl rfl (obRen_row (eS_frz 1 vt) rfl (obRen_row ePartCount_frz rfl .nil)))))))))))) ?_
  exact Vs.intro Sees.refl ⟨(y35.1, y35.2.1, y35.2.2.2.2.1, y35.2.2.1, y35.2.2.2.1, y35.2.2.2.2.2.1, y35.2.2.2.2.2.2.1, y35.2.2.2.2.2.2.2), rfl, h⟩
 rintro ⟨v12, v13, v14, v15, v16, v29, v30, v31⟩ h
 exact Vs.intro (sc [0, 1, 2, 3, 6, 7, 8] (by decide) (by kernel_rfl) (.cons rfl (.cons rfl (.cons rfl (.cons rfl (obRen_set eTask_frz rfl rfl (obRen_row (eS_frz 1 vt) rfl (obRen_row ePartCount_frz rfl .nil))))))) rfl rfl) ⟨(v13, v14, v15, v16, v29, v31, v30), rfl, h⟩
theorem agraffebase_Abs_ok (n : Nat) (a0 : Int) (r : Int) (h : agraffebase_Abs n a0 = some r) : FnL Tryz.prog 94 [vi a0] [] (vi r) [] := by
 dsimp only [agraffebase_Abs] at h
 refine fo [2] Tryz.call94 Tryz.func94 rfl ?_
 refine sk .a ?_
 refine q1 ?_
 refine sk (.k (.i 4 (vb (decide (a0 < (0 : Int)))) .n)) ?_
 refine tc h (fun c1 h => ?_) (fun c1 h => ?_)
 ·refine sj ?_
  refine rk 1 (.i 5 (vi a0) .n) ?_
  refine cK h fun c2 h => ?_
  refine jo 6 (.un .neg 5) (r_neg rfl c2) ?_
  refine jk 1 (.i 2 (vi (-a0)) .n) ?_
  refine q3 ?_
  have h := si h
  subst h
  exact DoneS.ret Sees.refl rfl rfl
 refine q2 ?_
 refine sk (.i 2 (vi a0) .n) ?_
 refine q3 ?_
 have h := si h
 subst h
 exact DoneS.ret Sees.refl rfl rfl
theorem agraffebase_Decimal_ok (n : Nat) (a0 : Int) (r : Str) (h : agraffebase_Decimal n a0 = some r) : FnL Tryz.prog 43 [vi a0] [] (vt r) [] := by
 dsimp only [agraffebase_Decimal] at h
 refine fo [2] Tryz.call43 Tryz.func43 rfl ?_
 refine sk .a ?_
 refine q1 ?_
 refine sk (.k (.i 6 (vb (a0 == (0 : Int))) .n)) ?_
 refine tc h (fun c1 h => ?_) (fun c1 h => ?_)
 ·refine sk (.i 2 (vt ([48] : Str)) .n) ?_
  refine q3 ?_
  have h := si h
  subst h
  exact DoneS.ret Sees.refl rfl rfl
 refine q2 ?_
 refine sk (.k (.i 3 (vt ([] : Str)) .n)) ?_
 refine TriE.seqK h (fun (v5 : Str) => St.mk [(0, vi a0), (3, vt v5)] []) ?_ ?_
 ·rintro v5 h
  refine q1 ?_
  refine sk (.d (.k (.i 22 (vb (decide (a0 < (0 : Int)))) .n))) ?_
  refine tc h (fun c7 h => ?_) (fun c7 h => ?_)
  ·refine sj ?_
   refine rk 1 (.i 23 (vt v5) .n) ?_
   refine cK h fun c8 h => ?_
   refine jo 24 (.bin .add false (.c (.p (.string ⟨#[45]⟩))) 23) (ok_sadd_t rfl rfl c8) ?_
   refine jk 1 (.i 2 (vt (([45] : Str) ++ v5)) .n) ?_
   refine q3 ?_
   have h := si h
   subst h
   exact DoneS.ret Sees.refl rfl rfl
  refine q2 ?_
  refine sk (.i 2 (vt v5) .n) ?_
  refine q3 ?_
  have h := si h
  subst h
  exact DoneS.ret Sees.refl rfl rfl
 intro k1 h
 refine sk (.k2 (.i 4 (vi a0) .n)) ?_
 refine q4 ?_
 refine TriE.loopN h (fun (t : Str × Int) => match t with | (v2, v3) => St.mk [(0, vi a0), (3, vt v2), (4, vi v3)] []) rfl ?_
 clear h
 rintro back ⟨v2, v3⟩ h
 dsimp only [agraffebase_Decimal_L1] at h
 refine q1 ?_
 refine sk (.k3 (.i 9 (vb (v3 != (0 : Int))) .n)) ?_
 refine tc h (fun c2 h => ?_) (fun c2 h => ?_)
 ·refine q2 ?_
  refine q7 ?_
  refine q6 ?_
  refine rk 1 (.k3 (.i 12 (vi v3) .n)) ?_
  refine cK h fun c3 h => ?_
  refine jo 13 (.bin .rem false 12 (ki 10)) (r_rem rfl rfl c3) ?_
  refine bK h fun y4 hy4 h => ?_
  refine jc 14 [13] (agraffebase_Abs_ok n (Int.tmod v3 10) y4 hy4) ?_
  refine cK h fun c4 h => ?_
  refine jo 15 (.bin .add false (ki 48) 14) (r_add rfl rfl c4) ?_
  refine rko 4 (.d3 (.k (.d (.k (.i 18 (vt ([UInt8.ofNat (Int.toNat (IntKind.u8.wrap (48 + y4)))] : Str)) (.i 19 (vt v2) .n)))))) [some (.row 1 [vk .u8 (IntKind.u8.wrap (48 + y4))])] ?_
  refine cK h fun c5 h => ?_
  refine jo 20 (.bin .add false 18 19) (ok_sadd_t rfl rfl c5) ?_
  refine jk 1 (.d (.k2 (.i 3 (vt (([UInt8.ofNat (Int.toNat (IntKind.u8.wrap (48 + y4)))] : Str) ++ v2)) .n))) ?_
  refine q6 ?_
  refine rk 1 (.k (.d (.k (.i 10 (vi v3) .n)))) ?_
  refine cK h fun c6 h => ?_
  refine jo 11 (.bin .quo false 10 (ki 10)) (r_quo rfl rfl c6) ?_
  refine jk 1 (.d (.k2 (.i 4 (vi (Int.tdiv v3 10)) .n))) ?_
  exact Vs.intro (sc [] (by decide) (by kernel_rfl) ObRen.nil rfl rfl) ⟨((([UInt8.ofNat (Int.toNat (IntKind.u8.wrap (48 + y4)))] : Str) ++ v2), Int.tdiv v3 10), rfl, h⟩
 refine q5 ?_
 exact Vs.intro sy ⟨v2, rfl, h⟩
theorem agrafferef08_words_ok (n : Nat) (a0 : Str) (a1 : List Str) (r : Str) (h : agrafferef08_words n a0 a1 = some r) : FnL Tryz.prog 67 [vt a0, .own 0 0 a1.length] [some (.row 1 (List.map vt a1))] (vt r) [some (.row 1 (List.map vt a1))] := by
 dsimp only [agrafferef08_words] at h
 refine fob [4] Tryz.call67 Tryz.func67 rfl (.cons rfl .nil) ?_
 refine sk .a ?_
 refine TriE.seqK h (fun (v3 : Str) => St.mk [(0, vt v3)] [some (.row 1 (List.map vt a1))]) ?_ ?_
 ·rintro v3 h
  refine sj ?_
  refine rk 1 (.i 19 (vt v3) .n) ?_
  refine cK h fun c5 h => ?_
  refine jo 20 (.bin .add false 19 (.c (.p (.string ⟨#[10]⟩)))) (ok_sadd_t rfl rfl c5) ?_
  refine jk 1 (.i 4 (vt (v3 ++ ([10] : Str))) .n) ?_
  refine q3 ?_
  have h := si h
  subst h
  exact DoneS.ret Sees.refl rfl rfl
 intro k1 h
 refine sk (.k2 (.i 5 (vi 0) .n)) ?_
 refine q4 ?_
 refine ts (.k2 (.i 5 (vi 0) .n)) ?_
 refine TriE.loopN h (fun (t : Str × Nat) => match t with | (v1, v2) => St.mk [(0, vt v1), (1, .own 0 0 a1.length), (5, vi v2)] [some (.row 1 (List.map vt a1))]) rfl ?_
 clear h
 rintro back ⟨v1, v2⟩ h
 dsimp only [agrafferef08_words_L1] at h
 refine q1 ?_
 refine sj ?_
 refine rk 3 (.k3 (.i 6 (vi v2) (.i 8 (vi (a1.length : Int)) .n))) ?_
 refine jo 9 (.bin .lss false 6 8) (n_lss (i := v2) (j := a1.length) rfl rfl) ?_
 refine jf (.d (.k3 (.i 9 (vb (decide (v2 < a1.length))) .n))) ?_
 refine tc h (fun c1 h => ?_) (fun c1 h => ?_)
 ·refine q2 ?_
  refine q7 ?_
  refine q6 ?_
  refine rk 1 (.d (.k2 (.i 12 (vt v1) .n))) ?_
  refine cK h fun c2 h => ?_
  refine jo 13 (.bin .add false 12 (.c (.p (.string ⟨#[32]⟩)))) (ok_sadd_t rfl rfl c2) ?_
  refine rk 2 (.d (.k2 (.i 13 (vt (v1 ++ ([32] : Str))) (.i 14 (.own 0 0 a1.length) (.i 15 (vi v2) .n))))) ?_
  refine jo 16 (.iaddr 1 14 15) (ok_iaddr_o0 (j := v2) rfl rfl rfl rfl c1) ?_
  refine jo 17 (.load false 1 16) (ok_load_pm (l := a1) (e := vt) (v := vt (ix a1 v2)) rfl rfl c1 rfl) ?_
  refine cK h fun c3 h => ?_
  refine jo 18 (.bin .add false 13 17) (ok_sadd_t rfl rfl c3) ?_
  refine jk 1 (.d3 (.k2 (.i 0 (vt ((v1 ++ ([32] : Str)) ++ (ix a1 v2))) .n))) ?_
  refine q6 ?_
  refine rk 1 (.k (.d (.k (.i 10 (vi v2) .n)))) ?_
  refine cK h fun c4 h => ?_
  refine jo 11 (.bin .add false 10 (ki 1)) (r_addn (i := v2) (j := 1) rfl rfl c4) ?_
  refine jk 1 (.d (.k2 (.i 5 (vi ((v2 + 1 : Nat) : Int)) .n))) ?_
  exact Vs.intro sy ⟨(((v1 ++ ([32] : Str)) ++ (ix a1 v2)), v2 + 1), rfl, h⟩
 refine q5 ?_
 exact Vs.intro sy ⟨v1, rfl, h⟩
theorem agrafferef08_words_2_ok (n : Nat) (a0 : Str) (a1 : List Str) (r : Str) (h : agrafferef08_words_2 n a0 a1 = some r) : FnL Tryz.prog 67 [vt a0, eS 1 vt a1] [] (vt r) [] := by
 dsimp only [agrafferef08_words_2] at h
 refine fo [4] Tryz.call67 Tryz.func67 rfl ?_
 refine sk .a ?_
 refine TriE.seqK h (fun (v3 : Str) => St.mk [(0, vt v3)] []) ?_ ?_
 ·rintro v3 h
  refine sj ?_
  refine rk 1 (.i 19 (vt v3) .n) ?_
  refine cK h fun c5 h => ?_
  refine jo 20 (.bin .add false 19 (.c (.p (.string ⟨#[10]⟩)))) (ok_sadd_t rfl rfl c5) ?_
  refine jk 1 (.i 4 (vt (v3 ++ ([10] : Str))) .n) ?_
  refine q3 ?_
  have h := si h
  subst h
  exact DoneS.ret Sees.refl rfl rfl
 intro k1 h
 refine sk (.k2 (.i 5 (vi 0) .n)) ?_
 refine q4 ?_
 refine ts (.k2 (.i 5 (vi 0) .n)) ?_
 refine TriE.loopN h (fun (t : Str × Nat) => match t with | (v1, v2) => St.mk [(0, vt v1), (1, eS 1 vt a1), (5, vi v2)] []) rfl ?_
 clear h
 rintro back ⟨v1, v2⟩ h
 dsimp only [agrafferef08_words_2_L1] at h
 refine q1 ?_
 refine sj ?_
 refine rk 2 (.k3 (.i 6 (vi v2) (.i 7 (eS 1 vt a1) .n))) ?_
 refine jo 8 (.len 0 7) (ok_len_m rfl) ?_
 refine jo 9 (.bin .lss false 6 8) (n_lss (i := v2) (j := a1.length) rfl rfl) ?_
 refine jf (.d2 (.k3 (.i 9 (vb (decide (v2 < a1.length))) .n))) ?_
 refine tc h (fun c1 h => ?_) (fun c1 h => ?_)
 ·refine q2 ?_
  refine q7 ?_
  refine q6 ?_
  refine rk 1 (.d (.k2 (.i 12 (vt v1) .n))) ?_
  refine cK h fun c2 h => ?_
  refine jo 13 (.bin .add false 12 (.c (.p (.string ⟨#[32]⟩)))) (ok_sadd_t rfl rfl c2) ?_
  refine rk 2 (.d (.k2 (.i 13 (vt (v1 ++ ([32] : Str))) (.i 14 (eS 1 vt a1) (.i 15 (vi v2) .n))))) ?_
  refine jo 16 (.iaddr 1 14 15) (ok_iaddr_m (j := v2) rfl rfl rfl c1) ?_
  refine jo 17 (.load false 1 16) (ok_load_fm (v := vt (ix a1 v2)) rfl c1 rfl) ?_
  refine cK h fun c3 h => ?_
  refine jo 18 (.bin .add false 13 17) (ok_sadd_t rfl rfl c3) ?_
  refine jk 1 (.d3 (.k2 (.i 0 (vt ((v1 ++ ([32] : Str)) ++ (ix a1 v2))) .n))) ?_
  refine q6 ?_
  refine rk 1 (.k (.d (.k (.i 10 (vi v2) .n)))) ?_
  refine cK h fun c4 h => ?_
  refine jo 11 (.bin .add false 10 (ki 1)) (r_addn (i := v2) (j := 1) rfl rfl c4) ?_
  refine jk 1 (.d (.k2 (.i 5 (vi ((v2 + 1 : Nat) : Int)) .n))) ?_
  exact Vs.intro sy ⟨(((v1 ++ ([32] : Str)) ++ (ix a1 v2)), v2 + 1), rfl, h⟩
 refine q5 ?_
 exact Vs.intro sy ⟨v1, rfl, h⟩
set_option maxHeartbeats 1000000 in
theorem agrafferef08_Print_ok (n : Nat) (a0 : List Task) (r : Str) (h : agrafferef08_Print n a0 = some r) : FnL Tryz.prog 26 [eS 6 eTask a0] [] (vt r) [] := by
 dsimp only [agrafferef08_Print] at h
 refine fo [2] Tryz.call26 Tryz.func26 rfl ?_
 refine sk .a ?_
 refine sk (.k (.i 3 (vt ([] : Str)) .n)) ?_
 refine TriE.seqK h (fun (v37 : Str) => St.mk [(3, vt v37)] []) ?_ ?_
 ·rintro v37 h
  refine sk (.i 2 (vt v37) .n) ?_
  refine q3 ?_
  have h := si h
  subst h
  exact DoneS.ret Sees.refl rfl rfl
 intro k4 h
 refine sk (.k2 (.i 4 (vi 0) .n)) ?_
 refine q4 ?_
 refine ts (.k2 (.i 4 (vi 0) .n)) ?_
 refine TriE.loopN h (fun (t : Str × Nat) => match t with | (v18, v19) => St.mk [(0, eS 6 eTask a0), (3, vt v18), (4, vi v19)] []) rfl ?_
 clear h
 rintro back ⟨v18, v19⟩ h
 dsimp only [agrafferef08_Print_L3] at h
 refine q1 ?_
 refine sj ?_
 refine rk 2 (.k3 (.i 8 (vi v19) (.i 9 (eS 6 eTask a0) .n))) ?_
 refine jo 10 (.len 0 9) (ok_len_m rfl) ?_
 refine jo 11 (.bin .lss false 8 10) (n_lss (i := v19) (j := a0.length) rfl rfl) ?_
 refine jf (.d2 (.k3 (.i 11 (vb (decide (v19 < a0.length))) .n))) ?_
 refine tc h (fun c1 h => ?_) (fun c1 h => ?_)
 ·refine q2 ?_
  refine TriE.seqK h (fun (v36 : Str) => St.mk [(0, eS 6 eTask a0), (4, vi v19), (3, vt v36)] []) ?_ ?_
  ·rintro v36 h
   refine q6 ?_
   refine rk 1 (.k (.d (.k (.i 12 (vi v19) .n)))) ?_
   refine cK h fun c13 h => ?_
   refine jo 13 (.bin .add false 12 (ki 1)) (r_addn (i := v19) (j := 1) rfl rfl c13) ?_
   refine jk 1 (.d (.k2 (.i 4 (vi ((v19 + 1 : Nat) : Int)) .n))) ?_
   exact Vs.intro sy ⟨(v36, v19 + 1), rfl, h⟩
  intro k3 h
  refine q4 ?_
  refine sj ?_
  refine rk 2 (.k3 (.i 14 (eS 6 eTask a0) (.i 15 (vi v19) .n))) ?_
  refine jo 16 (.iaddr 6 14 15) (ok_iaddr_m (j := v19) rfl rfl rfl c1) ?_
  refine jo 17 (.load true 6 16) (ok_load_fm (v := .agg [vt ((ix a0 v19).Name), vi ((ix a0 v19).Cents), vi ((ix a0 v19).Hours), eS 1 vt ((ix a0 v19).Needs), eS 1 (eS 1 vt) ((ix a0 v19).OneOf), eS 2 ePartCount ((ix a0 v19).Parts)]) rfl c1 rfl) ?_
  refine jko 2 (.d2 (.k3 (.i 5 (.ptr 0 0 0) .n))) [some (.row 6 [.agg [vt ((ix a0 v19).Name), vi ((ix a0 v19).Cents), vi ((ix a0 v19).Hours), eS 1 vt ((ix a0 v19).Needs), eS 1 (eS 1 vt) ((ix a0 v19).OneOf), eS 2 ePartCount ((ix a0 v19).Parts)]])] ?_
  refine q1 ?_
  refine ts .a ?_
  refine TriE.draw (by kernel_rfl) ?_
  refine dk 5 (.i 22 (vi ((ix a0 v19).Cents)) (.i 21 (.ptr 0 0 1) (.i 20 (vt ((ix a0 v19).Name)) (.i 19 (.ptr 0 0 0) (.i 18 (vt v18) .a))))) ?_
  refine bK h fun y20 hy20 h => ?_
  refine dc (vt y20) 0 23 [22] (agraffebase_Decimal_ok n ((ix a0 v19).Cents) y20 hy20) [] rfl ObsRen.nil ObsRen.nil rfl (.inr ⟨rfl, rfl⟩) ?_
  refine dk 2 (.i 25 (vi ((ix a0 v19).Hours)) (.i 24 (.ptr 0 0 2) .a)) ?_
  refine bK h fun y21 hy21 h => ?_
  refine dc (vt y21) 0 26 [25] (agraffebase_Decimal_ok n ((ix a0 v19).Hours) y21 hy21) [] rfl ObsRen.nil ObsRen.nil rfl (.inr ⟨rfl, rfl⟩) ?_
  refine dko 1 (.i 27 (.own 10 0 3) .a) [some (.row 6 [.agg [vt ((ix a0 v19).Name), vi ((ix a0 v19).Cents), vi ((ix a0 v19).Hours), eS 1 vt ((ix a0 v19).Needs), eS 1 (eS 1 vt) ((ix a0 v19).OneOf), eS 2 ePartCount ((ix a0 v19).Parts)]]), none, none, none, none, none, none, none, none, none, some (.row 1 [vt ((ix a0 v19).Name), vt y20, vt y21])] ?_
  refine bK h fun y22 hy22 h => ?_
  refine dc (vt y22) 0 28 [(.c (.p (.string ⟨#[116, 97, 115, 107]⟩))), 27] (agrafferef08_words_ok n ([116, 97, 115, 107] : Str) ([(ix a0 v19).Name, y20, y21] : List Str) y22 hy22) [10] rfl (.same (row_ren vt_frz _ _ _) .nil) (.same (row_ren vt_frz _ _ _) .nil) rfl (.inr ⟨rfl, rfl⟩) ?_
  refine cK h fun c2 h => ?_
  refine dp 29 (.bin .add false 18 28) (ok_sadd_t rfl rfl c2) ?_
  refine dk 1 (.i 3 (vt (v18 ++ y22)) .a) ?_
  refine dfi (ob' := [some (.row 6 [.agg [vt ((ix a0 v19).Name), vi ((ix a0 v19).Cents), vi ((ix a0 v19).Hours), eS 1 vt ((ix a0 v19).Needs), eS 1 (eS 1 vt) ((ix a0 v19).OneOf), eS 2 ePartCount ((ix a0 v19).Parts)]])]) (.d4 (.d4 (.d4 (.d (.k (.d (.k2 (.i 3 (vt (v18 ++ y22)) .n)))))))) [0] (.cons rfl .nil) ?_
  refine TriE.seqK h (fun (v24 : Str) => St.mk [(0, eS 6 eTask a0), (4, vi v19), (5, .ptr 0 0 0), (3, vt v24)] [some (.row 6 [.agg [vt ((ix a0 v19).Name), vi ((ix a0 v19).Cents), vi ((ix a0 v19).Hours), eS 1 vt ((ix a0 v19).Needs), eS 1 (eS 1 vt) ((ix a0 v19).OneOf), eS 2 ePartCount ((ix a0 v19).Parts)]])]) ?_ ?_
  ·rintro v24 h
   refine TriE.seqK h (fun (v29 : Str) => St.mk [(0, eS 6 eTask a0), (4, vi v19), (5, .ptr 0 0 0), (3, vt v29)] [some (.row 6 [.agg [vt ((ix a0 v19).Name), vi ((ix a0 v19).Cents), vi ((ix a0 v19).Hours), eS 1 vt ((ix a0 v19).Needs), eS 1 (eS 1 vt) ((ix a0 v19).OneOf), eS 2 ePartCount ((ix a0 v19).Parts)]])]) ?_ ?_
   ·rintro v29 h
    refine sk (.k4 (.i 7 (vi 0) .n)) ?_
    refine q4 ?_
    refine ts (.k4 (.i 7 (vi 0) .n)) ?_
    refine TriE.loopN h (fun (t : Str × Nat) => match t with | (v32, v33) => St.mk [(0, eS 6 eTask a0), (4, vi v19), (5, .ptr 0 0 0), (3, vt v32), (7, vi v33)] [some (.row 6 [.agg [vt ((ix a0 v19).Name), vi ((ix a0 v19).Cents), vi ((ix a0 v19).Hours), eS 1 vt ((ix a0 v19).Needs), eS 1 (eS 1 vt) ((ix a0 v19).OneOf), eS 2 ePartCount ((ix a0 v19).Parts)]])]) rfl ?_
    clear h
    rintro back ⟨v32, v33⟩ h
    dsimp only [agrafferef08_Print_L2] at h
    refine q1 ?_
    refine sj ?_
    refine rk 3 (.k4 (.k (.i 54 (vi v33) (.i 56 (eS 2 ePartCount ((ix a0 v19).Parts)) .n)))) ?_
    refine jo 57 (.len 0 56) (ok_len_m rfl) ?_
    refine jo 58 (.bin .lss false 54 57) (n_lss (i := v33) (j := ((ix a0 v19).Parts).length) rfl rfl) ?_
    refine jf (.d2 (.k4 (.k (.i 58 (vb (decide (v33 < (((ix a0 v19).Parts).length)))) .n)))) ?_
    refine tc h (fun c9 h => ?_) (fun c9 h => ?_)
    ·refine q2 ?_
     refine q7 ?_
     refine ts (.k4 (.k .n)) ?_
     refine TriE.draw (by kernel_rfl) ?_
     refine dk 4 (.i 64 (vi v33) (.i 63 (eS 2 ePartCount ((ix a0 v19).Parts)) (.i 62 (.ptr 0 0 5) (.i 61 (vt v32) .a)))) ?_
     refine cK h fun c10 h => ?_
     refine dp 65 (.iaddr 2 63 64) (ok_iaddr_m (j := v33) rfl rfl rfl c10) ?_
     refine dk 1 (.i 66 (.fptr 2 (List.map ePartCount ((ix a0 v19).Parts)) v33 0) .a) ?_
     refine dp 67 (.load false 1 66) (ok_load_fm (v := vt ((ix ((ix a0 v19).Parts) v33).Part)) rfl c10 rfl) ?_
     refine dk 3 (.i 70 (vi v33) (.i 69 (eS 2 ePartCount ((ix a0 v19).Parts)) (.i 68 (.ptr 0 0 5) .a))) ?_
     refine dp 71 (.iaddr 2 69 70) (ok_iaddr_m (j := v33) rfl rfl rfl c10) ?_
     refine dk 1 (.i 72 (.fptr 2 (List.map ePartCount ((ix a0 v19).Parts)) v33 1) .a) ?_
     refine dp 73 (.load false 1 72) (ok_load_fm (v := vi ((ix ((ix a0 v19).Parts) v33).Count)) rfl c10 rfl) ?_
     refine bK h fun y34 hy34 h => ?_
     refine dc (vt y34) 0 74 [73] (agraffebase_Decimal_ok n ((ix ((ix a0 v19).Parts) v33).Count) y34 hy34) [] rfl ObsRen.nil ObsRen.nil rfl (.inr ⟨rfl, rfl⟩) ?_
     refine dko 1 (.i 75 (.own 15 0 2) .a) [some (.row 6 [.agg [vt ((ix a0 v19).Name), vi ((ix a0 v19).Cents), vi ((ix a0 v19).Hours), eS 1 vt ((ix a0 v19).Needs), eS 1 (eS 1 vt) ((ix a0 v19).OneOf), eS 2 ePartCount ((ix a0 v19).Parts)]]), none, none, none, none, none, none, none, none, none, none, none, none, none, none, some (.row 1 [vt ((ix ((ix a0 v19).Parts) v33).Part), vt y34])] ?_
     refine bK h fun y35 hy35 h => ?_
     refine dc (vt y35) 0 76 [(.c (.p (.string ⟨#[112, 97, 114, 116]⟩))), 75] (agrafferef08_words_ok n ([112, 97, 114, 116] : Str) ([(ix ((ix a0 v19).Parts) v33).Part, y34] : List Str) y35 hy35) [15] rfl (.same (row_ren vt_frz _ _ _) .nil) (.same (row_ren vt_frz _ _ _) .nil) rfl (.inr ⟨rfl, rfl⟩) ?_
     refine cK h fun c11 h => ?_
     refine dp 77 (.bin .add false 61 76) (ok_sadd_t rfl rfl c11) ?_
     refine dk 1 (.i 3 (vt (v32 ++ y35)) .a) ?_
     refine dfi (ob' := [some (.row 6 [.agg [vt ((ix a0 v19).Name), vi ((ix a0 v19).Cents), vi ((ix a0 v19).Hours), eS 1 vt ((ix a0 v19).Needs), eS 1 (eS 1 vt) ((ix a0 v19).OneOf), eS 2 ePartCount ((ix a0 v19).Parts)]])]) (.d4 (.d4 (.d4 (.d4 (.d2 (.k3 (.d (.k (.i 3 (vt (v32 ++ y35)) .n))))))))) [0] (.cons rfl .nil) ?_
     refine q6 ?_
     refine rk 1 (.k3 (.d (.k (.i 59 (vi v33) .n)))) ?_
     refine cK h fun c12 h => ?_
     refine jo 60 (.bin .add false 59 (ki 1)) (r_addn (i := v33) (j := 1) rfl rfl c12) ?_
     refine jk 1 (.d (.k4 (.i 7 (vi ((v33 + 1 : Nat) : Int)) .n))) ?_
     exact Vs.intro sy ⟨((v32 ++ y35), v33 + 1), rfl, h⟩
    refine q5 ?_
    exact Vs.intro (sc [] (by decide) (by kernel_rfl) ObRen.nil rfl rfl) ⟨v32, rfl, h⟩
   intro k2 h
   refine sk (.k4 (.i 6 (vi 0) .n)) ?_
   refine q4 ?_
   refine ts (.k4 (.i 6 (vi 0) .n)) ?_
   refine TriE.loopN h (fun (t : Str × Nat) => match t with | (v26, v27) => St.mk [(0, eS 6 eTask a0), (4, vi v19), (5, .ptr 0 0 0), (3, vt v26), (6, vi v27)] [some (.row 6 [.agg [vt ((ix a0 v19).Name), vi ((ix a0 v19).Cents), vi ((ix a0 v19).Hours), eS 1 vt ((ix a0 v19).Needs), eS 1 (eS 1 vt) ((ix a0 v19).OneOf), eS 2 ePartCount ((ix a0 v19).Parts)]])]) rfl ?_
   clear h
   rintro back ⟨v26, v27⟩ h
   dsimp only [agrafferef08_Print_L1] at h
   refine q1 ?_
   refine sj ?_
   refine rk 3 (.k4 (.k (.i 39 (vi v27) (.i 41 (eS 1 (eS 1 vt) ((ix a0 v19).OneOf)) .n)))) ?_
   refine jo 42 (.len 0 41) (ok_len_m rfl) ?_
   refine jo 43 (.bin .lss false 39 42) (n_lss (i := v27) (j := ((ix a0 v19).OneOf).length) rfl rfl) ?_
   refine jf (.d2 (.k4 (.k (.i 43 (vb (decide (v27 < (((ix a0 v19).OneOf).length)))) .n)))) ?_
   refine tc h (fun c5 h => ?_) (fun c5 h => ?_)
   ·refine q2 ?_
    refine q7 ?_
    refine q6 ?_
    refine rk 4 (.k3 (.d (.k (.i 46 (vt v26) (.i 48 (eS 1 (eS 1 vt) ((ix a0 v19).OneOf)) (.i 49 (vi v27) .n)))))) ?_
    refine cK h fun c6 h => ?_
    refine jo 50 (.iaddr 1 48 49) (ok_iaddr_m (j := v27) rfl rfl rfl c6) ?_
    refine jo 51 (.load false 1 50) (ok_load_fm (v := eS 1 vt (ix ((ix a0 v19).OneOf) v27)) rfl c6 rfl) ?_
    refine bK h fun y28 hy28 h => ?_
    refine jc 52 [(.c (.p (.string ⟨#[111, 110, 101, 111, 102]⟩))), 51] (agrafferef08_words_2_ok n ([111, 110, 101, 111, 102] : Str) (ix ((ix a0 v19).OneOf) v27) y28 hy28) ?_
    refine cK h fun c7 h => ?_
    refine jo 53 (.bin .add false 46 52) (ok_sadd_t rfl rfl c7) ?_
    refine jk 1 (.d4 (.k4 (.i 3 (vt (v26 ++ y28)) .n))) ?_
    refine q6 ?_
    refine rk 1 (.k3 (.d (.k (.i 44 (vi v27) .n)))) ?_
    refine cK h fun c8 h => ?_
    refine jo 45 (.bin .add false 44 (ki 1)) (r_addn (i := v27) (j := 1) rfl rfl c8) ?_
    refine jk 1 (.d (.k4 (.i 6 (vi ((v27 + 1 : Nat) : Int)) .n))) ?_
    exact Vs.intro sy ⟨((v26 ++ y28), v27 + 1), rfl, h⟩
   refine q5 ?_
   exact Vs.intro sy ⟨v26, rfl, h⟩
  intro k1 h
  refine sj ?_
  refine rk 2 (.k4 (.i 31 (eS 1 vt ((ix a0 v19).Needs)) .n)) ?_
  refine jo 32 (.len 0 31) (ok_len_m rfl) ?_
  refine jo 33 (.bin .gtr false 32 (ki 0)) (n_gtr (i := ((ix a0 v19).Needs).length) (j := 0) rfl rfl) ?_
  refine jf (.d2 (.k4 (.i 33 (vb (decide (0 < (((ix a0 v19).Needs).length)))) .n))) ?_
  refine tc h (fun c3 h => ?_) (fun c3 h => ?_)
  ·refine q6 ?_
   refine rk 3 (.k3 (.i 34 (vt (v18 ++ y22)) (.i 36 (eS 1 vt ((ix a0 v19).Needs)) .n))) ?_
   refine bK h fun y23 hy23 h => ?_
   refine jc 37 [(.c (.p (.string ⟨#[110, 101, 101, 100, 115]⟩))), 36] (agrafferef08_words_2_ok n ([110, 101, 101, 100, 115] : Str) ((ix a0 v19).Needs) y23 hy23) ?_
   refine cK h fun c4 h => ?_
   refine jo 38 (.bin .add false 34 37) (ok_sadd_t rfl rfl c4) ?_
   refine jk 1 (.d2 (.k3 (.i 3 (vt ((v18 ++ y22) ++ y23)) .n))) ?_
   exact Vs.intro Sees.refl ⟨((v18 ++ y22) ++ y23), rfl, h⟩
  refine q2 ?_
  exact Vs.intro sy ⟨(v18 ++ y22), rfl, h⟩
 refine q5 ?_
 exact Vs.intro sy ⟨v18, rfl, h⟩
theorem agraffebase_Texts_ok (n : Nat) (a0 : List Str) (a1 : List Str) (r : Bool) (h : agraffebase_Texts n a0 a1 = some r) : FnL Tryz.prog 34 [eS 1 vt a0, eS 1 vt a1] [] (vb r) [] := by
 dsimp only [agraffebase_Texts] at h
 refine fo [4] Tryz.call34 Tryz.func34 rfl ?_
 refine sk .a ?_
 refine q1 ?_
 refine sj ?_
 refine rk 1 (.k2 (.i 6 (eS 1 vt a0) .n)) ?_
 refine jo 7 (.len 0 6) (ok_len_m rfl) ?_
 refine rk 1 (.d (.k2 (.i 7 (vi (a0.length : Int)) (.i 8 (eS 1 vt a1) .n)))) ?_
 refine jo 9 (.len 0 8) (ok_len_m rfl) ?_
 refine jo 10 (.bin .neq false 7 9) (n_neq (i := a0.length) (j := a1.length) rfl rfl) ?_
 refine jf (.d2 (.k2 (.i 10 (vb (!decide (a0.length = a1.length))) .n))) ?_
 refine tc h (fun c1 h => ?_) (fun c1 h => ?_)
 ·refine sk (.i 4 (vb false) .n) ?_
  refine q3 ?_
  have h := si h
  subst h
  exact DoneS.ret Sees.refl rfl rfl
 refine q2 ?_
 refine TriE.seqK h (fun (_ : Unit) => St.mk [] []) ?_ ?_
 ·rintro ⟨⟩ h
  refine sk (.i 4 (vb true) .n) ?_
  refine q3 ?_
  have h := si h
  subst h
  exact DoneS.ret Sees.refl rfl rfl
 intro k1 h
 refine sk (.k2 (.i 5 (vi 0) .n)) ?_
 refine q4 ?_
 refine ts (.k2 (.i 5 (vi 0) .n)) ?_
 refine TriE.loopN h (fun (v1 : Nat) => St.mk [(0, eS 1 vt a0), (1, eS 1 vt a1), (5, vi v1)] []) rfl ?_
 clear h
 rintro back v1 h
 dsimp only [agraffebase_Texts_L1] at h
 refine q1 ?_
 refine sj ?_
 refine rk 2 (.k3 (.i 11 (vi v1) (.i 12 (eS 1 vt a0) .n))) ?_
 refine jo 13 (.len 0 12) (ok_len_m rfl) ?_
 refine jo 14 (.bin .lss false 11 13) (n_lss (i := v1) (j := a0.length) rfl rfl) ?_
 refine jf (.d2 (.k3 (.i 14 (vb (decide (v1 < a0.length))) .n))) ?_
 refine tc h (fun c2 h => ?_) (fun c2 h => ?_)
 ·refine q2 ?_
  refine q7 ?_
  refine q1 ?_
  refine ts (.k3 .n) ?_
  refine TriE.draw (by kernel_rfl) ?_
  refine dk 2 (.i 18 (vi v1) (.i 17 (eS 1 vt a0) .a)) ?_
  refine dp 19 (.iaddr 1 17 18) (ok_iaddr_m (j := v1) rfl rfl rfl c2) ?_
  refine dp 20 (.load false 1 19) (ok_load_fm (v := vt (ix a0 v1)) rfl c2 rfl) ?_
  refine dk 2 (.i 22 (vi v1) (.i 21 (eS 1 vt a1) .a)) ?_
  refine cK h fun c3 h => ?_
  refine dp 23 (.iaddr 1 21 22) (ok_iaddr_m (j := v1) rfl rfl rfl c3) ?_
  refine dp 24 (.load false 1 23) (ok_load_fm (v := vt (ix a1 v1)) rfl c3 rfl) ?_
  refine dk 1 (.i 25 (vb (!((ix a0 v1) == (ix a1 v1)))) .a) ?_
  refine dfi (.d4 (.d4 (.d (.k3 (.i 25 (vb (!((ix a0 v1) == (ix a1 v1)))) .n))))) [] ObRen.nil ?_
  refine tc h (fun c4 h => ?_) (fun c4 h => ?_)
  ·refine sk (.i 4 (vb false) .n) ?_
   refine q3 ?_
   have h := si h
   subst h
   exact DoneS.ret Sees.refl rfl rfl
  refine q2 ?_
  refine q6 ?_
  refine rk 1 (.k2 (.i 15 (vi v1) .n)) ?_
  refine cK h fun c5 h => ?_
  refine jo 16 (.bin .add false 15 (ki 1)) (r_addn (i := v1) (j := 1) rfl rfl c5) ?_
  refine jk 1 (.d (.k2 (.i 5 (vi ((v1 + 1 : Nat) : Int)) .n))) ?_
  exact Vs.intro sy ⟨(v1 + 1), rfl, h⟩
 refine q5 ?_
 exact Vs.intro sy ⟨(), rfl, h⟩
theorem agraffelaw08_sameCounts_ok (n : Nat) (a0 : List PartCount) (a1 : List PartCount) (r : Bool) (h : agraffelaw08_sameCounts n a0 a1 = some r) : FnL Tryz.prog 68 [eS 2 ePartCount a0, eS 2 ePartCount a1] [] (vb r) [] := by
 dsimp only [agraffelaw08_sameCounts] at h
 refine fo [4] Tryz.call68 Tryz.func68 rfl ?_
 refine sk .a ?_
 refine q1 ?_
 refine sj ?_
 refine rk 1 (.k2 (.i 6 (eS 2 ePartCount a0) .n)) ?_
 refine jo 7 (.len 0 6) (ok_len_m rfl) ?_
 refine rk 1 (.d (.k2 (.i 7 (vi (a0.length : Int)) (.i 8 (eS 2 ePartCount a1) .n)))) ?_
 refine jo 9 (.len 0 8) (ok_len_m rfl) ?_
 refine jo 10 (.bin .neq false 7 9) (n_neq (i := a0.length) (j := a1.length) rfl rfl) ?_
 refine jf (.d2 (.k2 (.i 10 (vb (!decide (a0.length = a1.length))) .n))) ?_
 refine tc h (fun c1 h => ?_) (fun c1 h => ?_)
 ·refine sk (.i 4 (vb false) .n) ?_
  refine q3 ?_
  have h := si h
  subst h
  exact DoneS.ret Sees.refl rfl rfl
 refine q2 ?_
 refine TriE.seqK h (fun (_ : Unit) => St.mk [] []) ?_ ?_
 ·rintro ⟨⟩ h
  refine sk (.i 4 (vb true) .n) ?_
  refine q3 ?_
  have h := si h
  subst h
  exact DoneS.ret Sees.refl rfl rfl
 intro k1 h
 refine sk (.k2 (.i 5 (vi 0) .n)) ?_
 refine q4 ?_
 refine ts (.k2 (.i 5 (vi 0) .n)) ?_
 refine TriE.loopN h (fun (v1 : Nat) => St.mk [(0, eS 2 ePartCount a0), (1, eS 2 ePartCount a1), (5, vi v1)] []) rfl ?_
 clear h
 rintro back v1 h
 dsimp only [agraffelaw08_sameCounts_L1] at h
 refine q1 ?_
 refine sj ?_
 refine rk 2 (.k3 (.i 11 (vi v1) (.i 12 (eS 2 ePartCount a0) .n))) ?_
 refine jo 13 (.len 0 12) (ok_len_m rfl) ?_
 refine jo 14 (.bin .lss false 11 13) (n_lss (i := v1) (j := a0.length) rfl rfl) ?_
 refine jf (.d2 (.k3 (.i 14 (vb (decide (v1 < a0.length))) .n))) ?_
 refine tc h (fun c2 h => ?_) (fun c2 h => ?_)
 ·refine q2 ?_
  refine q7 ?_
  refine q1 ?_
  refine ts (.k3 .n) ?_
  refine TriE.draw (by kernel_rfl) ?_
  refine dk 2 (.i 18 (vi v1) (.i 17 (eS 2 ePartCount a0) .a)) ?_
  refine dp 19 (.iaddr 2 17 18) (ok_iaddr_m (j := v1) rfl rfl rfl c2) ?_
  refine dp 20 (.load true 2 19) (ok_load_fm (v := .agg [vt ((ix a0 v1).Part), vi ((ix a0 v1).Count)]) rfl c2 rfl) ?_
  refine dk 2 (.i 22 (vi v1) (.i 21 (eS 2 ePartCount a1) .a)) ?_
  refine cK h fun c3 h => ?_
  refine dp 23 (.iaddr 2 21 22) (ok_iaddr_m (j := v1) rfl rfl rfl c3) ?_
  refine dp 24 (.load true 2 23) (ok_load_fm (v := .agg [vt ((ix a1 v1).Part), vi ((ix a1 v1).Count)]) rfl c3 rfl) ?_
  refine RegD.op (OpD.aggeq (cs := [vt ((ix a0 v1).Part), vi ((ix a0 v1).Count)]) (ds := [vt ((ix a1 v1).Part), vi ((ix a1 v1).Count)]) (b := (((ix a0 v1).Part) == ((ix a1 v1).Part)) && ((((ix a0 v1).Count) == ((ix a1 v1).Count)) && true)) true (cy (I0 25 (.bin .neq false 20 24))) rfl rfl rfl (by kernel_rfl) (.cons rfl (.cons rfl .nil))) ?_
  refine RegD.done rfl (by kernel_rfl) (S' := ⟨[(0, eS 2 ePartCount a0), (1, eS 2 ePartCount a1), (5, vi v1), (25, vb (!((((ix a0 v1).Part) == ((ix a1 v1).Part)) && ((((ix a0 v1).Count) == ((ix a1 v1).Count)) && true))))], []⟩) (sc [] (by decide) (by kernel_rfl) ObRen.nil rfl rfl) ?_
  refine tc h (fun c4 h => ?_) (fun c4 h => ?_)
  ·refine sk (.i 4 (vb false) .n) ?_
   refine q3 ?_
   have h := si h
   subst h
   exact DoneS.ret Sees.refl rfl rfl
  refine q2 ?_
  refine q6 ?_
  refine rk 1 (.k2 (.i 15 (vi v1) .n)) ?_
  refine cK h fun c5 h => ?_
  refine jo 16 (.bin .add false 15 (ki 1)) (r_addn (i := v1) (j := 1) rfl rfl c5) ?_
  refine jk 1 (.d (.k2 (.i 5 (vi ((v1 + 1 : Nat) : Int)) .n))) ?_
  exact Vs.intro sy ⟨(v1 + 1), rfl, h⟩
 refine q5 ?_
 exact Vs.intro sy ⟨(), rfl, h⟩
set_option maxHeartbeats 1000000 in
theorem agraffelaw08_Same_ok (n : Nat) (a0 : List Task) (a1 : List Task) (r : Bool) (h : agraffelaw08_Same n a0 a1 = some r) : FnL Tryz.prog 27 [eS 6 eTask a0, eS 6 eTask a1] [] (vb r) [] := by
 dsimp only [agraffelaw08_Same] at h
 refine fo [4] Tryz.call27 Tryz.func27 rfl ?_
 refine sk .a ?_
 refine q1 ?_
 refine sj ?_
 refine rk 1 (.k2 (.i 9 (eS 6 eTask a0) .n)) ?_
 refine jo 10 (.len 0 9) (ok_len_m rfl) ?_
 refine rk 1 (.d (.k2 (.i 10 (vi (a0.length : Int)) (.i 11 (eS 6 eTask a1) .n)))) ?_
 refine jo 12 (.len 0 11) (ok_len_m rfl) ?_
 refine jo 13 (.bin .neq false 10 12) (n_neq (i := a0.length) (j := a1.length) rfl rfl) ?_
 refine jf (.d2 (.k2 (.i 13 (vb (!decide (a0.length = a1.length))) .n))) ?_
 refine tc h (fun c1 h => ?_) (fun c1 h => ?_)
 ·refine sk (.i 4 (vb false) .n) ?_
  refine q3 ?_
  have h := si h
  subst h
  exact DoneS.ret Sees.refl rfl rfl
 refine q2 ?_
 refine TriE.seqK h (fun (_ : Unit) => St.mk [] []) ?_ ?_
 ·rintro ⟨⟩ h
  refine sk (.i 4 (vb true) .n) ?_
  refine q3 ?_
  have h := si h
  subst h
  exact DoneS.ret Sees.refl rfl rfl
 intro k2 h
 refine sk (.k2 (.i 5 (vi 0) .n)) ?_
 refine q4 ?_
 refine ts (.k2 (.i 5 (vi 0) .n)) ?_
 refine TriE.loopN h (fun (v6 : Nat) => St.mk [(0, eS 6 eTask a0), (1, eS 6 eTask a1), (5, vi v6)] []) rfl ?_
 clear h
 rintro back v6 h
 dsimp only [agraffelaw08_Same_L2] at h
 refine q1 ?_
 refine sj ?_
 refine rk 2 (.k3 (.i 14 (vi v6) (.i 15 (eS 6 eTask a0) .n))) ?_
 refine jo 16 (.len 0 15) (ok_len_m rfl) ?_
 refine jo 17 (.bin .lss false 14 16) (n_lss (i := v6) (j := a0.length) rfl rfl) ?_
 refine jf (.d2 (.k3 (.i 17 (vb (decide (v6 < a0.length))) .n))) ?_
 refine tc h (fun c2 h => ?_) (fun c2 h => ?_)
 ·refine q2 ?_
  refine TriE.seqK h (fun (_ : Unit) => St.mk [(0, eS 6 eTask a0), (1, eS 6 eTask a1), (5, vi v6)] []) ?_ ?_
  ·rintro ⟨⟩ h
   refine q6 ?_
   refine rk 1 (.k2 (.i 18 (vi v6) .n)) ?_
   refine cK h fun c10 h => ?_
   refine jo 19 (.bin .add false 18 (ki 1)) (r_addn (i := v6) (j := 1) rfl rfl c10) ?_
   refine jk 1 (.d (.k2 (.i 5 (vi ((v6 + 1 : Nat) : Int)) .n))) ?_
   exact Vs.intro sy ⟨(v6 + 1), rfl, h⟩
  intro k1 h
  refine q4 ?_
  refine q1 ?_
  refine ts (.k3 .n) ?_
  refine TriE.draw (by kernel_rfl) ?_
  refine dk 2 (.i 21 (vi v6) (.i 20 (eS 6 eTask a0) .a)) ?_
  refine dp 22 (.iaddr 6 20 21) (ok_iaddr_m (j := v6) rfl rfl rfl c2) ?_
  refine dp 23 (.load true 6 22) (ok_load_fm (v := .agg [vt ((ix a0 v6).Name), vi ((ix a0 v6).Cents), vi ((ix a0 v6).Hours), eS 1 vt ((ix a0 v6).Needs), eS 1 (eS 1 vt) ((ix a0 v6).OneOf), eS 2 ePartCount ((ix a0 v6).Parts)]) rfl c2 rfl) ?_
  refine dk 2 (.i 25 (vi v6) (.i 24 (eS 6 eTask a1) .a)) ?_
  refine cK h fun c3 h => ?_
  refine dp 26 (.iaddr 6 24 25) (ok_iaddr_m (j := v6) rfl rfl rfl c3) ?_
  refine dp 27 (.load true 6 26) (ok_load_fm (v := .agg [vt ((ix a1 v6).Name), vi ((ix a1 v6).Cents), vi ((ix a1 v6).Hours), eS 1 vt ((ix a1 v6).Needs), eS 1 (eS 1 vt) ((ix a1 v6).OneOf), eS 2 ePartCount ((ix a1 v6).Parts)]) rfl c3 rfl) ?_
  refine dko 4 (.i 7 (.ptr 9 0 0) (.i 6 (.ptr 8 0 0) .a)) [none, none, none, none, none, none, none, none, some (.row 6 [.agg [vt ((ix a0 v6).Name), vi ((ix a0 v6).Cents), vi ((ix a0 v6).Hours), eS 1 vt ((ix a0 v6).Needs), eS 1 (eS 1 vt) ((ix a0 v6).OneOf), eS 2 ePartCount ((ix a0 v6).Parts)]]), some (.row 6 [.agg [vt ((ix a1 v6).Name), vi ((ix a1 v6).Cents), vi ((ix a1 v6).Hours), eS 1 vt ((ix a1 v6).Needs), eS 1 (eS 1 vt) ((ix a1 v6).OneOf), eS 2 ePartCount ((ix a1 v6).Parts)]]), none, none] ?_
  refine dfi (ob' := [some (.row 6 [.agg [vt ((ix a0 v6).Name), vi ((ix a0 v6).Cents), vi ((ix a0 v6).Hours), eS 1 vt ((ix a0 v6).Needs), eS 1 (eS 1 vt) ((ix a0 v6).OneOf), eS 2 ePartCount ((ix a0 v6).Parts)]]), some (.row 6 [.agg [vt ((ix a1 v6).Name), vi ((ix a1 v6).Cents), vi ((ix a1 v6).Hours), eS 1 vt ((ix a1 v6).Needs), eS 1 (eS 1 vt) ((ix a1 v6).OneOf), eS 2 ePartCount ((ix a1 v6).Parts)]])]) (.d4 (.d4 (.d2 (.k3 (.i 6 (.ptr 0 0 0) (.i 7 (.ptr 1 0 0) .n)))))) [8, 9] (.cons rfl (.cons rfl .nil)) ?_
  refine q1 ?_
  refine sj ?_
  refine rk 6 (.k4 (.k (.i 33 (vb (!(((ix a0 v6).Name) == ((ix a1 v6).Name)))) .n))) ?_
  refine gj (.ptr 0 0 1) 34 (.faddr 1 6) 33 false rfl ?_
  refine gk (vi ((ix a0 v6).Cents)) 35 (.load false 1 34) 33 false rfl (fun hg => (.cons hg .nil)) ?_
  refine gj (.ptr 1 0 1) 36 (.faddr 1 7) 33 false rfl ?_
  refine gk (vi ((ix a1 v6).Cents)) 37 (.load false 1 36) 33 false rfl (fun hg => (.cons hg .nil)) ?_
  refine gk (vb (((ix a0 v6).Cents) != ((ix a1 v6).Cents))) 38 (.bin .neq false 35 37) 33 false rfl (fun hg => (.cons hg (.cons hg .nil))) ?_
  refine po 39 33 38 rfl rfl ?_
  refine rk 1 (.d4 (.d2 (.k4 (.k (.i 34 (.cond (!(!(((ix a0 v6).Name) == ((ix a1 v6).Name)))) (.ptr 0 0 1)) (.i 35 (.cond (!(!(((ix a0 v6).Name) == ((ix a1 v6).Name)))) (vi ((ix a0 v6).Cents))) (.i 36 (.cond (!(!(((ix a0 v6).Name) == ((ix a1 v6).Name)))) (.ptr 1 0 1)) (.i 37 (.cond (!(!(((ix a0 v6).Name) == ((ix a1 v6).Name)))) (vi ((ix a1 v6).Cents))) (.i 38 (.cond (!(!(((ix a0 v6).Name) == ((ix a1 v6).Name)))) (vb (((ix a0 v6).Cents) != ((ix a1 v6).Cents)))) (.i 40 (vb ((!(((ix a0 v6).Name) == ((ix a1 v6).Name))) || (((ix a0 v6).Cents) != ((ix a1 v6).Cents)))) .n)))))))))) ?_
  refine gj (.ptr 0 0 2) 41 (.faddr 2 6) 40 false rfl ?_
  refine gk (vi ((ix a0 v6).Hours)) 42 (.load false 1 41) 40 false rfl (fun hg => (.cons hg .nil)) ?_
  refine gj (.ptr 1 0 2) 43 (.faddr 2 7) 40 false rfl ?_
  refine gk (vi ((ix a1 v6).Hours)) 44 (.load false 1 43) 40 false rfl (fun hg => (.cons hg .nil)) ?_
  refine gk (vb (((ix a0 v6).Hours) != ((ix a1 v6).Hours))) 45 (.bin .neq false 42 44) 40 false rfl (fun hg => (.cons hg (.cons hg .nil))) ?_
  refine po 46 40 45 rfl rfl ?_
  refine rk 1 (.d4 (.d2 (.k4 (.k4 (.k2 (.i 41 (.cond (!((!(((ix a0 v6).Name) == ((ix a1 v6).Name))) || (((ix a0 v6).Cents) != ((ix a1 v6).Cents)))) (.ptr 0 0 2)) (.i 42 (.cond (!((!(((ix a0 v6).Name) == ((ix a1 v6).Name))) || (((ix a0 v6).Cents) != ((ix a1 v6).Cents)))) (vi ((ix a0 v6).Hours))) (.i 43 (.cond (!((!(((ix a0 v6).Name) == ((ix a1 v6).Name))) || (((ix a0 v6).Cents) != ((ix a1 v6).Cents)))) (.ptr 1 0 2)) (.i 44 (.cond (!((!(((ix a0 v6).Name) == ((ix a1 v6).Name))) || (((ix a0 v6).Cents) != ((ix a1 v6).Cents)))) (vi ((ix a1 v6).Hours))) (.i 45 (.cond (!((!(((ix a0 v6).Name) == ((ix a1 v6).Name))) || (((ix a0 v6).Cents) != ((ix a1 v6).Cents)))) (vb (((ix a0 v6).Hours) != ((ix a1 v6).Hours)))) (.i 47 (vb (((!(((ix a0 v6).Name) == ((ix a1 v6).Name))) || (((ix a0 v6).Cents) != ((ix a1 v6).Cents))) || (((ix a0 v6).Hours) != ((ix a1 v6).Hours)))) .n))))))))))) ?_
  refine gj (.ptr 0 0 3) 48 (.faddr 3 6) 47 false rfl ?_
  refine gk (eS 1 vt ((ix a0 v6).Needs)) 49 (.load false 1 48) 47 false rfl (fun hg => (.cons hg .nil)) ?_
  refine gj (.ptr 1 0 3) 50 (.faddr 3 7) 47 false rfl ?_
  refine gk (eS 1 vt ((ix a1 v6).Needs)) 51 (.load false 1 50) 47 false rfl (fun hg => (.cons hg .nil)) ?_
  refine bK h fun y7 hy7 h => ?_
  refine gc 52 [49, 51] 47 false rfl (fun hg => agraffebase_Texts_ok n ((ix a0 v6).Needs) ((ix a1 v6).Needs) y7 (gcall_some hy7 hg)) (fun hg => (.cons rfl (.cons hg (.cons hg .nil)))) (fun hg => by kernel_rfl) ?_
  refine gk (vb (!y7)) 53 (.un .not 52) 47 false rfl (fun hg => (.cons hg .nil)) ?_
  refine po 54 47 53 rfl rfl ?_
  refine rk 1 (.d4 (.d3 (.k4 (.k4 (.k4 (.k3 (.i 48 (.cond (!(((!(((ix a0 v6).Name) == ((ix a1 v6).Name))) || (((ix a0 v6).Cents) != ((ix a1 v6).Cents))) || (((ix a0 v6).Hours) != ((ix a1 v6).Hours)))) (.ptr 0 0 3)) (.i 49 (.cond (!(((!(((ix a0 v6).Name) == ((ix a1 v6).Name))) || (((ix a0 v6).Cents) != ((ix a1 v6).Cents))) || (((ix a0 v6).Hours) != ((ix a1 v6).Hours)))) (eS 1 vt ((ix a0 v6).Needs))) (.i 50 (.cond (!(((!(((ix a0 v6).Name) == ((ix a1 v6).Name))) || (((ix a0 v6).Cents) != ((ix a1 v6).Cents))) || (((ix a0 v6).Hours) != ((ix a1 v6).Hours)))) (.ptr 1 0 3)) (.i 51 (.cond (!(((!(((ix a0 v6).Name) == ((ix a1 v6).Name))) || (((ix a0 v6).Cents) != ((ix a1 v6).Cents))) || (((ix a0 v6).Hours) != ((ix a1 v6).Hours)))) (eS 1 vt ((ix a1 v6).Needs))) (.i 52 (.cond (!(((!(((ix a0 v6).Name) == ((ix a1 v6).Name))) || (((ix a0 v6).Cents) != ((ix a1 v6).Cents))) || (((ix a0 v6).Hours) != ((ix a1 v6).Hours)))) (vb y7)) (.i 53 (.cond (!(((!(((ix a0 v6).Name) == ((ix a1 v6).Name))) || (((ix a0 v6).Cents) != ((ix a1 v6).Cents))) || (((ix a0 v6).Hours) != ((ix a1 v6).Hours)))) (vb (!y7))) (.i 55 (vb ((((!(((ix a0 v6).Name) == ((ix a1 v6).Name))) || (((ix a0 v6).Cents) != ((ix a1 v6).Cents))) || (((ix a0 v6).Hours) != ((ix a1 v6).Hours))) || (!y7))) .n))))))))))))) ?_
  refine gj (.ptr 0 0 4) 56 (.faddr 4 6) 55 false rfl ?_
  refine gk (eS 1 (eS 1 vt) ((ix a0 v6).OneOf)) 57 (.load false 1 56) 55 false rfl (fun hg => (.cons hg .nil)) ?_
  refine gv 58 (.len 0 57) 55 false rfl (fun hg => (ok_len_m rfl)) (fun hg => (.cons hg .nil)) ?_
  refine gj (.ptr 1 0 4) 59 (.faddr 4 7) 55 false rfl ?_
  refine gk (eS 1 (eS 1 vt) ((ix a1 v6).OneOf)) 60 (.load false 1 59) 55 false rfl (fun hg => (.cons hg .nil)) ?_
  refine gv 61 (.len 0 60) 55 false rfl (fun hg => (ok_len_m rfl)) (fun hg => (.cons hg .nil)) ?_
  refine gv 62 (.bin .neq false 58 61) 55 false rfl (fun hg => (n_neq (i := ((ix a0 v6).OneOf).length) (j := ((ix a1 v6).OneOf).length) rfl rfl)) (fun hg => (.cons hg (.cons hg .nil))) ?_
  refine po 63 55 62 rfl rfl ?_
  refine rk 1 (.d4 (.d4 (.k4 (.k4 (.k4 (.k4 (.k4 (.k (.i 56 (.cond (!((((!(((ix a0 v6).Name) == ((ix a1 v6).Name))) || (((ix a0 v6).Cents) != ((ix a1 v6).Cents))) || (((ix a0 v6).Hours) != ((ix a1 v6).Hours))) || (!y7))) (.ptr 0 0 4)) (.i 57 (.cond (!((((!(((ix a0 v6).Name) == ((ix a1 v6).Name))) || (((ix a0 v6).Cents) != ((ix a1 v6).Cents))) || (((ix a0 v6).Hours) != ((ix a1 v6).Hours))) || (!y7))) (eS 1 (eS 1 vt) ((ix a0 v6).OneOf))) (.i 58 (.cond (!((((!(((ix a0 v6).Name) == ((ix a1 v6).Name))) || (((ix a0 v6).Cents) != ((ix a1 v6).Cents))) || (((ix a0 v6).Hours) != ((ix a1 v6).Hours))) || (!y7))) (vi ((((ix a0 v6).OneOf).length : Nat) : Int))) (.i 59 (.cond (!((((!(((ix a0 v6).Name) == ((ix a1 v6).Name))) || (((ix a0 v6).Cents) != ((ix a1 v6).Cents))) || (((ix a0 v6).Hours) != ((ix a1 v6).Hours))) || (!y7))) (.ptr 1 0 4)) (.i 60 (.cond (!((((!(((ix a0 v6).Name) == ((ix a1 v6).Name))) || (((ix a0 v6).Cents) != ((ix a1 v6).Cents))) || (((ix a0 v6).Hours) != ((ix a1 v6).Hours))) || (!y7))) (eS 1 (eS 1 vt) ((ix a1 v6).OneOf))) (.i 61 (.cond (!((((!(((ix a0 v6).Name) == ((ix a1 v6).Name))) || (((ix a0 v6).Cents) != ((ix a1 v6).Cents))) || (((ix a0 v6).Hours) != ((ix a1 v6).Hours))) || (!y7))) (vi ((((ix a1 v6).OneOf).length : Nat) : Int))) (.i 62 (.cond (!((((!(((ix a0 v6).Name) == ((ix a1 v6).Name))) || (((ix a0 v6).Cents) != ((ix a1 v6).Cents))) || (((ix a0 v6).Hours) != ((ix a1 v6).Hours))) || (!y7))) (vb (!decide ((((ix a0 v6).OneOf).length) = (((ix a1 v6).OneOf).length))))) (.i 64 (vb (((((!(((ix a0 v6).Name) == ((ix a1 v6).Name))) || (((ix a0 v6).Cents) != ((ix a1 v6).Cents))) || (((ix a0 v6).Hours) != ((ix a1 v6).Hours))) || (!y7)) || (!decide ((((ix a0 v6).OneOf).length) = (((ix a1 v6).OneOf).length))))) .n)))))))))))))))) ?_
  refine gj (.ptr 0 0 5) 65 (.faddr 5 6) 64 false rfl ?_
  refine gk (eS 2 ePartCount ((ix a0 v6).Parts)) 66 (.load false 1 65) 64 false rfl (fun hg => (.cons hg .nil)) ?_
  refine gj (.ptr 1 0 5) 67 (.faddr 5 7) 64 false rfl ?_
  refine gk (eS 2 ePartCount ((ix a1 v6).Parts)) 68 (.load false 1 67) 64 false rfl (fun hg => (.cons hg .nil)) ?_
  refine bK h fun y8 hy8 h => ?_
  refine gc 69 [66, 68] 64 false rfl (fun hg => agraffelaw08_sameCounts_ok n ((ix a0 v6).Parts) ((ix a1 v6).Parts) y8 (gcall_some hy8 hg)) (fun hg => (.cons rfl (.cons hg (.cons hg .nil)))) (fun hg => by kernel_rfl) ?_
  refine gk (vb (!y8)) 70 (.un .not 69) 64 false rfl (fun hg => (.cons hg .nil)) ?_
  refine po 71 64 70 rfl rfl ?_
  refine jf (.d4 (.d3 (.k4 (.k (.i 71 (vb ((((((!(((ix a0 v6).Name) == ((ix a1 v6).Name))) || (((ix a0 v6).Cents) != ((ix a1 v6).Cents))) || (((ix a0 v6).Hours) != ((ix a1 v6).Hours))) || (!y7)) || (!decide ((((ix a0 v6).OneOf).length) = (((ix a1 v6).OneOf).length)))) || (!y8))) .n))))) ?_
  refine tc h (fun c4 h => ?_) (fun c4 h => ?_)
  ·refine sk (.i 4 (vb false) .n) ?_
   refine q3 ?_
   have h := si h
   subst h
   exact DoneS.ret (S' := ⟨[(4, vb false)], []⟩) (sc [] (by decide) (by kernel_rfl) ObRen.nil rfl rfl) rfl rfl
  refine q2 ?_
  refine sk (.k4 (.k (.i 8 (vi 0) .n))) ?_
  refine q4 ?_
  refine ts (.k4 (.k (.i 8 (vi 0) .n))) ?_
  refine TriE.loopN h (fun (v10 : Nat) => St.mk [(0, eS 6 eTask a0), (1, eS 6 eTask a1), (5, vi v6), (6, .ptr 0 0 0), (7, .ptr 1 0 0), (8, vi v10)] [some (.row 6 [.agg [vt ((ix a0 v6).Name), vi ((ix a0 v6).Cents), vi ((ix a0 v6).Hours), eS 1 vt ((ix a0 v6).Needs), eS 1 (eS 1 vt) ((ix a0 v6).OneOf), eS 2 ePartCount ((ix a0 v6).Parts)]]), some (.row 6 [.agg [vt ((ix a1 v6).Name), vi ((ix a1 v6).Cents), vi ((ix a1 v6).Hours), eS 1 vt ((ix a1 v6).Needs), eS 1 (eS 1 vt) ((ix a1 v6).OneOf), eS 2 ePartCount ((ix a1 v6).Parts)]])]) rfl ?_
  clear h
  rintro back v10 h
  dsimp only [agraffelaw08_Same_L1] at h
  refine q1 ?_
  refine sj ?_
  refine rk 3 (.k4 (.k2 (.i 72 (vi v10) (.i 74 (eS 1 (eS 1 vt) ((ix a0 v6).OneOf)) .n)))) ?_
  refine jo 75 (.len 0 74) (ok_len_m rfl) ?_
  refine jo 76 (.bin .lss false 72 75) (n_lss (i := v10) (j := ((ix a0 v6).OneOf).length) rfl rfl) ?_
  refine jf (.d2 (.k4 (.k2 (.i 76 (vb (decide (v10 < (((ix a0 v6).OneOf).length)))) .n)))) ?_
  refine tc h (fun c5 h => ?_) (fun c5 h => ?_)
  ·refine q2 ?_
   refine q7 ?_
   refine q1 ?_
   refine ts (.k4 (.k2 .n)) ?_
   refine TriE.draw (by kernel_rfl) ?_
   refine dk 3 (.i 81 (vi v10) (.i 80 (eS 1 (eS 1 vt) ((ix a0 v6).OneOf)) (.i 79 (.ptr 0 0 4) .a))) ?_
   refine cK h fun c6 h => ?_
   refine dp 82 (.iaddr 1 80 81) (ok_iaddr_m (j := v10) rfl rfl rfl c6) ?_
   refine dp 83 (.load false 1 82) (ok_load_fm (v := eS 1 vt (ix ((ix a0 v6).OneOf) v10)) rfl c6 rfl) ?_
   refine dk 3 (.i 86 (vi v10) (.i 85 (eS 1 (eS 1 vt) ((ix a1 v6).OneOf)) (.i 84 (.ptr 1 0 4) .a))) ?_
   refine cK h fun c7 h => ?_
   refine dp 87 (.iaddr 1 85 86) (ok_iaddr_m (j := v10) rfl rfl rfl c7) ?_
   refine dp 88 (.load false 1 87) (ok_load_fm (v := eS 1 vt (ix ((ix a1 v6).OneOf) v10)) rfl c7 rfl) ?_
   refine bK h fun y11 hy11 h => ?_
   refine dc (vb y11) 0 89 [83, 88] (agraffebase_Texts_ok n (ix ((ix a0 v6).OneOf) v10) (ix ((ix a1 v6).OneOf) v10) y11 hy11) [] rfl ObsRen.nil ObsRen.nil rfl (.inr ⟨rfl, rfl⟩) ?_
   refine dk 1 (.i 90 (vb (!y11)) .a) ?_
   refine dfi (ob' := [some (.row 6 [.agg [vt ((ix a0 v6).Name), vi ((ix a0 v6).Cents), vi ((ix a0 v6).Hours), eS 1 vt ((ix a0 v6).Needs), eS 1 (eS 1 vt) ((ix a0 v6).OneOf), eS 2 ePartCount ((ix a0 v6).Parts)]]), some (.row 6 [.agg [vt ((ix a1 v6).Name), vi ((ix a1 v6).Cents), vi ((ix a1 v6).Hours), eS 1 vt ((ix a1 v6).Needs), eS 1 (eS 1 vt) ((ix a1 v6).OneOf), eS 2 ePartCount ((ix a1 v6).Parts)]])]) (.d4 (.d4 (.d4 (.k4 (.k2 (.i 90 (vb (!y11)) .n)))))) [0, 1] (.cons rfl (.cons rfl .nil)) ?_
   refine tc h (fun c8 h => ?_) (fun c8 h => ?_)
   ·refine sk (.i 4 (vb false) .n) ?_
    refine q3 ?_
    have h := si h
    subst h
    exact DoneS.ret (S' := ⟨[(4, vb false)], []⟩) (sc [] (by decide) (by kernel_rfl) ObRen.nil rfl rfl) rfl rfl
   refine q2 ?_
   refine q6 ?_
   refine rk 1 (.k4 (.k (.i 77 (vi v10) .n))) ?_
   refine cK h fun c9 h => ?_
   refine jo 78 (.bin .add false 77 (ki 1)) (r_addn (i := v10) (j := 1) rfl rfl c9) ?_
   refine jk 1 (.d (.k4 (.k (.i 8 (vi ((v10 + 1 : Nat) : Int)) .n)))) ?_
   exact Vs.intro sy ⟨(v10 + 1), rfl, h⟩
  refine q5 ?_
  exact Vs.intro (sc [] (by decide) (by kernel_rfl) ObRen.nil rfl rfl) ⟨(), rfl, h⟩
 refine q5 ?_
 exact Vs.intro sy ⟨(), rfl, h⟩
theorem agraffebase_Cut_ok (n : Nat) (a0 : Str) (a1 : Int) (r : (List Str)) (h : agraffebase_Cut n a0 a1 = some r) : FnL Tryz.prog 41 [vt a0, vk .u8 a1] [] (eS 1 vt r) [] := by
 dsimp only [agraffebase_Cut] at h
 refine fo [4] Tryz.call41 Tryz.func41 rfl ?_
 refine sk .a ?_
 refine sk (.k2 (.i 5 .emp .n)) ?_
 refine sk (.k3 (.i 6 (vi 0) .n)) ?_
 refine TriE.seqK h (fun (v8 : (List Str)) => St.mk [(5, .own 0 0 v8.length)] [some (.row 1 (List.map vt v8))]) ?_ ?_
 ·rintro v8 h
  refine sk (.i 4 (.own 0 0 v8.length) .n) ?_
  refine q3 ?_
  have h := si h
  subst h
  exact DoneS.ret (S' := ⟨[(4, eS 1 vt v8)], []⟩) (Sees.trans (Sees.freeze 0 (fr' := [(4, eS 1 vt v8)]) (ob' := [none]) rfl (frz_row vt_frzE _) (.cons (frz_full rfl) .nil) rfl) (sc [] (by decide) (by kernel_rfl) ObRen.nil rfl rfl)) rfl rfl
 intro k2 h
 refine sk (.k4 (.i 7 (vi 0) .n)) ?_
 refine q4 ?_
 refine TriE.sees (S' := ⟨[(0, vt a0), (1, vk .u8 a1), (5, .own 0 0 ([] : List Str).length), (6, vi 0), (7, vi 0)], [some (.row 1 (List.map vt ([] : List Str)))]⟩) (Sees.trans (Sees.co (fr' := [(0, vt a0), (1, vk .u8 a1), (5, .own 0 0 0), (6, vi 0), (7, vi 0)]) (ob' := []) (.cons .same (.cons .same (.cons .own (.cons .same (.cons .same .nil))))) ObCo.nil 1) sy) ?_
 refine TriE.loopN h (fun (t : (List Str) × Nat × Nat) => match t with | (v3, v4, v5) => St.mk [(0, vt a0), (1, vk .u8 a1), (5, .own 0 0 v3.length), (6, vi v4), (7, vi v5)] [some (.row 1 (List.map vt v3))]) rfl ?_
 clear h
 rintro back ⟨v3, v4, v5⟩ h
 dsimp only [agraffebase_Cut_L1] at h
 refine q1 ?_
 refine sj ?_
 refine rk 2 (.k4 (.k (.i 8 (vi v5) (.i 9 (vt a0) .n)))) ?_
 refine jo 10 (.len 1 9) (ok_len_t rfl) ?_
 refine jo 11 (.bin .leq false 8 10) (n_leq (i := v5) (j := a0.length) rfl rfl) ?_
 refine jf (.d2 (.k4 (.k (.i 11 (vb (decide (v5 ≤ a0.length))) .n)))) ?_
 refine tc h (fun c1 h => ?_) (fun c1 h => ?_)
 ·refine q2 ?_
  refine TriE.seqK h (fun (t : Nat × (List Str)) => match t with | (v6, v7) => St.mk [(0, vt a0), (1, vk .u8 a1), (7, vi v5), (5, .own 0 0 v7.length), (6, vi v6)] [some (.row 1 (List.map vt v7))]) ?_ ?_
  ·rintro ⟨v6, v7⟩ h
   refine q6 ?_
   refine rk 1 (.k2 (.d (.k2 (.i 12 (vi v5) .n)))) ?_
   refine cK h fun c7 h => ?_
   refine jo 13 (.bin .add false 12 (ki 1)) (r_addn (i := v5) (j := 1) rfl rfl c7) ?_
   refine jk 1 (.d (.k4 (.i 7 (vi ((v5 + 1 : Nat) : Int)) .n))) ?_
   exact Vs.intro sy ⟨(v7, v6, v5 + 1), rfl, h⟩
  intro k1 h
  refine q4 ?_
  refine sj ?_
  refine rk 2 (.k4 (.k (.i 14 (vi v5) (.i 15 (vt a0) .n)))) ?_
  refine jo 16 (.len 1 15) (ok_len_t rfl) ?_
  refine jo 17 (.bin .eql false 14 16) (n_eql (i := v5) (j := a0.length) rfl rfl) ?_
  refine rk 1 (.d2 (.k4 (.k (.i 18 (vb (decide (v5 = a0.length))) .n)))) ?_
  refine gj (vt a0) 19 (.mov 0) 18 false rfl ?_
  refine gj (vi v5) 20 (.mov 7) 18 false rfl ?_
  refine cK h fun c2 h => ?_
  refine gv 21 (.sidx 19 20) 18 false rfl (fun hg => (ok_sidx_t (j := v5) rfl rfl rfl (gor c2 hg))) (fun hg => (.cons hg (.cons hg .nil))) ?_
  refine gj (vk .u8 a1) 22 (.mov 1) 18 false rfl ?_
  refine gk (vb ((((List.getD a0 v5 0).toNat : Nat) : Int) == a1)) 23 (.bin .eql false 21 22) 18 false rfl (fun hg => (.cons hg (.cons hg .nil))) ?_
  refine po 24 18 23 rfl rfl ?_
  refine jf (.d4 (.d2 (.k4 (.k (.i 24 (vb ((decide (v5 = a0.length)) || ((((List.getD a0 v5 0).toNat : Nat) : Int) == a1))) .n))))) ?_
  refine tc h (fun c3 h => ?_) (fun c3 h => ?_)
  ·refine sj ?_
   refine rk 4 (.k2 (.d2 (.k (.i 25 (.own 0 0 v3.length) (.i 26 (vt a0) (.i 27 (vi v4) (.i 28 (vi v5) .n))))))) ?_
   refine cK h fun c4 h => ?_
   refine jo 29 (.sslc 26 (some 27) (some 28)) (ok_sslc_lh (i := v4) (j := v5) rfl rfl rfl rfl rfl c4 c1) ?_
   refine rko 1 (.d (.k4 (.i 30 (.own 1 0 1) .n))) [some (.row 1 (List.map vt v3)), some (.row 1 [vt (List.take (v5 - v4) (List.drop v4 a0))])] ?_
   refine cK h fun c5 h => ?_
   refine jx 31 (.app 1 16 25 30) _ (ok_app_own (l := v3) (l2 := ([(List.take (v5 - v4) (List.drop v4 a0))] : List Str)) (e := vt) (u := .own 1 0 1) rfl rfl rfl rfl rfl c5) rfl rfl ?_
   refine jk 1 (.d (.k3 (.i 5 (.own 2 0 ((v3 ++ ([(List.take (v5 - v4) (List.drop v4 a0))] : List Str)).length)) .n))) ?_
   refine q6 ?_
   refine rk 1 (.k4 (.i 32 (vi v5) .n)) ?_
   refine cK h fun c6 h => ?_
   refine jo 33 (.bin .add false 32 (ki 1)) (r_addn (i := v5) (j := 1) rfl rfl c6) ?_
   refine jk 1 (.d (.k4 (.i 6 (vi ((v5 + 1 : Nat) : Int)) .n))) ?_
   exact Vs.intro (sc [2] (by decide) (by kernel_rfl) (obRen_row vt_frz rfl .nil) rfl rfl) ⟨(v5 + 1, (v3 ++ ([(List.take (v5 - v4) (List.drop v4 a0))] : List Str))), rfl, h⟩
  refine q2 ?_
  exact Vs.intro sy ⟨(v4, v3), rfl, h⟩
 refine q5 ?_
 exact Vs.intro sy ⟨v3, rfl, h⟩
set_option maxHeartbeats 1000000 in
theorem agraffebase_Number_ok (n : Nat) (a0 : Str) (a1 : Int) (r : Int × Bool) (h : agraffebase_Number n a0 a1 = some r) : FnL Tryz.prog 42 [vt a0, vi a1] [] (.tup [vi r.1, vb r.2]) [] := by
 dsimp only [agraffebase_Number] at h
 refine fo [4, 5] Tryz.call42 Tryz.func42 rfl ?_
 refine sk .a ?_
 refine sk (.k2 (.i 6 (vi 0) (.i 7 (vi 0) .n))) ?_
 refine TriE.seqK h (fun (v1 : Int) => St.mk [(0, vt a0), (1, vi a1), (6, vi 0), (7, vi v1)] []) ?_ ?_
 ·rintro v1 h
  refine q1 ?_
  refine sj ?_
  refine rk 1 (.k4 (.i 17 (vt a0) .n)) ?_
  refine jo 18 (.len 1 17) (ok_len_t rfl) ?_
  refine rk 3 (.d (.k4 (.i 21 (vb ((a0.length : Int) == v1)) .n))) ?_
  refine gj (vt a0) 22 (.mov 0) 21 false rfl ?_
  refine gv 23 (.len 1 22) 21 false rfl (fun hg => (ok_len_t rfl)) (fun hg => (.cons hg .nil)) ?_
  refine gj (vi v1) 24 (.mov 7) 21 false rfl ?_
  refine gj (vi a1) 25 (.mov 1) 21 false rfl ?_
  refine cK h fun c2 h => ?_
  refine gv 26 (.bin .add false 24 25) 21 false rfl (fun hg => (r_add rfl rfl (gor c2 hg))) (fun hg => (.cons hg (.cons hg .nil))) ?_
  refine gk (vb (decide ((v1 + a1) < (a0.length : Int)))) 27 (.bin .gtr false 23 26) 21 false rfl (fun hg => (.cons hg (.cons hg .nil))) ?_
  refine po 28 21 27 rfl rfl ?_
  refine rk 1 (.d4 (.d3 (.k4 (.i 29 (vb (((a0.length : Int) == v1) || (decide ((v1 + a1) < (a0.length : Int))))) .n)))) ?_
  refine gj (vi a1) 30 (.mov 1) 29 false rfl ?_
  refine gk (vb (decide ((18 : Int) < a1))) 31 (.bin .gtr false 30 (ki 18)) 29 false rfl (fun hg => (.cons hg (.cons rfl .nil))) ?_
  refine po 32 29 31 rfl rfl ?_
  refine jf (.d3 (.k (.d (.k2 (.i 32 (vb ((((a0.length : Int) == v1) || (decide ((v1 + a1) < (a0.length : Int)))) || (decide ((18 : Int) < a1)))) .n))))) ?_
  refine tc h (fun c3 h => ?_) (fun c3 h => ?_)
  ·refine sk (.i 4 (vi 0) (.i 5 (vb false) .n)) ?_
   refine q3 ?_
   have h := si h
   subst h
   exact DoneS.ret Sees.refl rfl rfl
  refine q2 ?_
  refine TriE.seqK h (fun (v6 : Int) => St.mk [(0, vt a0), (6, vi v6), (7, vi v1)] []) ?_ ?_
  ·rintro v6 h
   refine TriE.seqK h (fun (v7 : Int) => St.mk [(0, vt a0), (6, vi v7)] []) ?_ ?_
   ·rintro v7 h
    refine sj ?_
    refine rk 2 (.k (.i 57 (vi v7) (.i 58 (vi v7) .n))) ?_
    refine bK h fun y8 hy8 h => ?_
    refine jc 59 [58] (agraffebase_Decimal_ok n v7 y8 hy8) ?_
    refine jk 4 (.i 4 (vi v7) (.i 5 (vb (y8 == a0)) .n)) ?_
    refine q3 ?_
    have h := si h
    subst h
    exact DoneS.ret Sees.refl rfl rfl
   intro k3 h
   refine sk (.k2 (.i 54 (vb (v1 == (1 : Int))) .n)) ?_
   refine tc h (fun c11 h => ?_) (fun c11 h => ?_)
   ·refine q6 ?_
    refine rk 1 (.k (.i 55 (vi v6) .n)) ?_
    refine cK h fun c12 h => ?_
    refine jo 56 (.un .neg 55) (r_neg rfl c12) ?_
    refine jk 1 (.d (.k (.i 6 (vi (-v6)) .n))) ?_
    exact Vs.intro Sees.refl ⟨(-v6), rfl, h⟩
   refine q2 ?_
   exact Vs.intro sy ⟨v6, rfl, h⟩
  intro k2 h
  refine sk (.k3 (.i 8 (vi v1) .n)) ?_
  refine q4 ?_
  refine TriE.loopN h (fun (t : Int × Int) => match t with | (v3, v4) => St.mk [(0, vt a0), (6, vi v3), (7, vi v1), (8, vi v4)] []) rfl ?_
  clear h
  rintro back ⟨v3, v4⟩ h
  dsimp only [agraffebase_Number_L1] at h
  refine q1 ?_
  refine sj ?_
  refine rk 2 (.k4 (.i 34 (vi v4) (.i 35 (vt a0) .n))) ?_
  refine jo 36 (.len 1 35) (ok_len_t rfl) ?_
  refine jk 1 (.d (.k4 (.i 37 (vb (decide (v4 < (a0.length : Int)))) .n))) ?_
  refine tc h (fun c4 h => ?_) (fun c4 h => ?_)
  ·refine q2 ?_
   refine q7 ?_
   refine q1 ?_
   refine sj ?_
   refine rk 2 (.k4 (.i 40 (vt a0) (.i 41 (vi v4) .n))) ?_
   refine cK h fun c5 h => ?_
   refine jo 42 (.sidx 40 41) (ok_sidx_t (j := v4.toNat) rfl rfl (inB_to c5) (inB_lt c5)) ?_
   refine bK h fun y5 hy5 h => ?_
   refine jc 43 [42] (agraffebase_isDigit_ok n (((List.getD a0 v4.toNat 0).toNat : Nat) : Int) y5 hy5) ?_
   refine jk 1 (.d2 (.k4 (.i 44 (vb (!((decide ((48 : Int) ≤ (((List.getD a0 v4.toNat 0).toNat : Nat) : Int))) && (decide ((((List.getD a0 v4.toNat 0).toNat : Nat) : Int) ≤ (57 : Int)))))) .n))) ?_
   refine tc h (fun c6 h => ?_) (fun c6 h => ?_)
   ·refine sk (.i 4 (vi 0) (.i 5 (vb false) .n)) ?_
    refine q3 ?_
    have h := si h
    subst h
    exact DoneS.ret Sees.refl rfl rfl
   refine q2 ?_
   refine q6 ?_
   refine rk 1 (.k (.d (.k2 (.i 45 (vi v3) .n)))) ?_
   refine cK h fun c7 h => ?_
   refine jo 46 (.bin .mul false (ki 10) 45) (r_mul rfl rfl c7) ?_
   refine rk 2 (.d (.k3 (.i 46 (vi (10 * v3)) (.i 47 (vt a0) (.i 48 (vi v4) .n))))) ?_
   refine jo 49 (.sidx 47 48) (ok_sidx_t (j := v4.toNat) rfl rfl (inB_to c5) (inB_lt c5)) ?_
   refine rk 1 (.d (.k4 (.i 50 (vk .u8 (IntKind.u8.wrap ((((List.getD a0 v4.toNat 0).toNat : Nat) : Int) - 48))) .n))) ?_
   refine cK h fun c8 h => ?_
   refine jo 51 (.conv .i64 50) (ok_conv64 rfl c8) ?_
   refine cK h fun c9 h => ?_
   refine jo 52 (.bin .add false 46 51) (r_add rfl rfl c9) ?_
   refine jk 1 (.d2 (.k3 (.i 6 (vi ((10 * v3) + (IntKind.u8.wrap ((((List.getD a0 v4.toNat 0).toNat : Nat) : Int) - 48)))) .n))) ?_
   refine q6 ?_
   refine rk 1 (.k2 (.d (.k (.i 38 (vi v4) .n)))) ?_
   refine cK h fun c10 h => ?_
   refine jo 39 (.bin .add false 38 (ki 1)) (r_add rfl rfl c10) ?_
   refine jk 1 (.d (.k3 (.i 8 (vi (v4 + 1)) .n))) ?_
   exact Vs.intro sy ⟨((10 * v3) + (IntKind.u8.wrap ((((List.getD a0 v4.toNat 0).toNat : Nat) : Int) - 48)), v4 + 1), rfl, h⟩
  refine q5 ?_
  exact Vs.intro sy ⟨v3, rfl, h⟩
 intro k1 h
 refine sj ?_
 refine rk 1 (.k4 (.i 9 (vt a0) .n)) ?_
 refine jo 10 (.len 1 9) (ok_len_t rfl) ?_
 refine jo 11 (.bin .gtr false 10 (ki 0)) (n_gtr (i := a0.length) (j := 0) rfl rfl) ?_
 refine rk 1 (.d2 (.k4 (.i 12 (vb (decide (0 < a0.length))) .n))) ?_
 refine gj (vt a0) 13 (.mov 0) 12 true rfl ?_
 refine gv 14 (.sidx 13 (ki 0)) 12 true rfl (fun hg => (ok_sidx_t (j := 0) rfl rfl rfl hg)) (fun hg => (.cons hg (.cons rfl .nil))) ?_
 refine gk (vb ((((List.getD a0 0 0).toNat : Nat) : Int) == (45 : Int))) 15 (.bin .eql false 14 (.c (.p (.int .u8 45)))) 12 true rfl (fun hg => (.cons hg (.cons rfl .nil))) ?_
 refine pa 16 12 15 rfl rfl ?_
 refine jf (.d4 (.k4 (.i 16 (vb ((decide (0 < a0.length)) && ((((List.getD a0 0 0).toNat : Nat) : Int) == (45 : Int)))) .n))) ?_
 refine tc h (fun c1 h => ?_) (fun c1 h => ?_)
 ·refine tk (.k3 (.i 7 (vi 1) .n)) ?_
  exact Vs.intro Sees.refl ⟨1, rfl, h⟩
 refine q2 ?_
 exact Vs.intro sy ⟨0, rfl, h⟩
set_option maxHeartbeats 1000000 in
theorem agrafferef08_take_3_ok (n : Nat) (a0 : List Task) (a1 : Str) (a2 : Int) (a3 : Int) (a4 : List Str) (a5 : List (List Str)) (a6 : List PartCount) (a7 : Str) (r : Bool × (List Task) × Str × Int × Int × (List Str) × (List (List Str)) × (List PartCount)) (h : agrafferef08_take_3 n a0 a1 a2 a3 a4 a5 a6 a7 = some r) : FnL Tryz.prog 69 [.own 0 0 a0.length, vt a7] [some (.row 6 (List.set (List.map eTask a0) (a0.length - 1) (.agg [vt a1, vi a2, vi a3, eS 1 vt a4, .own 1 0 a5.length, .own 2 0 a6.length]))), some (.row 1 (List.map (eS 1 vt) a5)), some (.row 2 (List.map ePartCount a6))] (.tup [.own 3 0 r.2.1.length, vb r.1]) [none, none, none, some (.row 6 (List.set (List.map eTask r.2.1) (r.2.1.length - 1) (.agg [vt r.2.2.1, vi r.2.2.2.1, vi r.2.2.2.2.1, eS 1 vt r.2.2.2.2.2.1, .own 4 0 r.2.2.2.2.2.2.1.length, .own 5 0 r.2.2.2.2.2.2.2.length]))), some (.row 1 (List.map (eS 1 vt) r.2.2.2.2.2.2.1)), some (.row 2 (List.map ePartCount r.2.2.2.2.2.2.2))] := by
 dsimp only [agrafferef08_take_3] at h
 refine fob [4, 5] Tryz.call69 Tryz.func69 rfl (.cons rfl (.cons rfl (.cons rfl .nil))) ?_
 refine TriE.sees (Sees.mov (S' := ⟨[(0, .own 3 0 a0.length), (1, vt a7)], [none, none, none, some (.row 6 (List.set (List.map eTask a0) (a0.length - 1) (.agg [vt a1, vi a2, vi a3, eS 1 vt a4, .own 4 0 a5.length, .own 5 0 a6.length]))), some (.row 1 (List.map (eS 1 vt) a5)), some (.row 2 (List.map ePartCount a6))]⟩) (rs := [0, 1, 2, 0, 1, 2]) (by kernel_rfl) rfl rfl (.cons (.inl rfl) (.cons (.inl rfl) .nil)) (.skip (.skip (.skip (obRen_set eTask_frz rfl rfl (obRen_row (eS_frz 1 vt) rfl (obRen_row ePartCount_frz rfl .nil))))))) ?_
 refine sr [(0, .own 3 0 a0.length), (1, vt a7)] [none, none, none, some (.row 6 (List.set (List.map eTask a0) (a0.length - 1) (.agg [vt a1, vi a2, vi a3, eS 1 vt a4, .own 4 0 a5.length, .own 5 0 a6.length]))), some (.row 1 (List.map (eS 1 vt) a5)), some (.row 2 (List.map ePartCount a6))] ?_
 refine sj ?_
 refine rk 1 (.k (.i 14 (vt a7) .n)) ?_
 refine bK h fun y1 hy1 h => ?_
 refine jc 15 [14, (.c (.p (.int .u8 32)))] (agraffebase_Cut_ok n a7 32 y1 hy1) ?_
 refine jk 1 (.d (.k (.i 6 (eS 1 vt y1) .n))) ?_
 refine q1 ?_
 refine sj ?_
 refine rk 1 (.k2 (.i 16 (eS 1 vt y1) .n)) ?_
 refine cK h fun c1 h => ?_
 refine jo 17 (.iaddr 1 16 (ki 0)) (ok_iaddr_m (j := 0) rfl rfl rfl c1) ?_
 refine jo 18 (.load false 1 17) (ok_load_fm (v := vt (ix y1 0)) rfl c1 rfl) ?_
 refine rk 2 (.d2 (.k2 (.i 20 (vb ((ix y1 0) == ([116, 97, 115, 107] : Str))) .n))) ?_
 refine gj (eS 1 vt y1) 21 (.mov 6) 20 true rfl ?_
 refine gv 22 (.len 0 21) 20 true rfl (fun hg => (ok_len_m rfl)) (fun hg => (.cons hg .nil)) ?_
 refine gv 23 (.bin .eql false 22 (ki 4)) 20 true rfl (fun hg => (n_eql (i := y1.length) (j := 4) rfl rfl)) (fun hg => (.cons hg (.cons rfl .nil))) ?_
 refine pa 24 20 23 rfl rfl ?_
 refine jf (.d4 (.k2 (.i 24 (vb (((ix y1 0) == ([116, 97, 115, 107] : Str)) && (decide (y1.length = 4)))) .n))) ?_
 refine tc h (fun c2 h => ?_) (fun c2 h => ?_)
 ·refine sj ?_
  refine rk 1 (.k2 (.i 26 (eS 1 vt y1) .n)) ?_
  refine cK h fun c3 h => ?_
  refine jo 27 (.iaddr 1 26 (ki 2)) (ok_iaddr_m (j := 2) rfl rfl rfl c3) ?_
  refine jo 28 (.load false 1 27) (ok_load_fm (v := vt (ix y1 2)) rfl c3 rfl) ?_
  refine bK h fun y2 hy2 h => ?_
  refine jc 29 [28, (ki 10)] (agraffebase_Number_ok n (ix y1 2) 10 y2 hy2) ?_
  refine jk 5 (.d3 (.k2 (.i 7 (vi y2.1) (.i 8 (vb y2.2) .n)))) ?_
  refine sj ?_
  refine rk 1 (.k4 (.i 33 (eS 1 vt y1) .n)) ?_
  refine cK h fun c4 h => ?_
  refine jo 34 (.iaddr 1 33 (ki 3)) (ok_iaddr_m (j := 3) rfl rfl rfl c4) ?_
  refine jo 35 (.load false 1 34) (ok_load_fm (v := vt (ix y1 3)) rfl c4 rfl) ?_
  refine bK h fun y3 hy3 h => ?_
  refine jc 36 [35, (ki 10)] (agraffebase_Number_ok n (ix y1 3) 10 y3 hy3) ?_
  refine jk 5 (.d3 (.k4 (.i 9 (vi y3.1) (.i 10 (vb y3.2) .n)))) ?_
  refine sj ?_
  refine rk 2 (.d2 (.k4 (.i 39 (.own 3 0 a0.length) (.i 40 (eS 1 vt y1) .n)))) ?_
  refine cK h fun c5 h => ?_
  refine jo 41 (.iaddr 1 40 (ki 1)) (ok_iaddr_m (j := 1) rfl rfl rfl c5) ?_
  refine jo 42 (.load false 1 41) (ok_load_fm (v := vt (ix y1 1)) rfl c5 rfl) ?_
  refine rko 4 (.d3 (.k (.d (.k2 (.i 46 (.own 6 0 1) .n))))) [none, none, none, some (.row 6 (List.set (List.map eTask a0) (a0.length - 1) (.agg [vt a1, vi a2, vi a3, eS 1 vt a4, .own 4 0 a5.length, .own 5 0 a6.length]))), some (.row 1 (List.map (eS 1 vt) a5)), some (.row 2 (List.map ePartCount a6)), some (.row 6 [.agg [vt (ix y1 1), vi y2.1, vi y3.1, .emp, .emp, .emp]])] ?_
  refine RegJ.sees (Sees.freezeO 4 (fr' := [(8, vb y2.2), (10, vb y3.2), (39, .own 3 0 a0.length), (46, .own 6 0 1)]) (ob' := [none, none, none, some (.row 6 (List.set (List.map eTask a0) (a0.length - 1) (.agg [vt a1, vi a2, vi a3, eS 1 vt a4, eS 1 (eS 1 vt) a5, .own 5 0 a6.length]))), none, some (.row 2 (List.map ePartCount a6)), some (.row 6 [.agg [vt (ix y1 1), vi y2.1, vi y3.1, .emp, .emp, .emp]])]) rfl (frz_row (eS_frzE 1 vt) _) (.cons (.refl _) (.cons (.refl _) (.cons (.refl _) (.cons (.refl _) .nil)))) (.cons .same (.cons .same (.cons .same (.cons (objFrz_set (fun _ => rfl) (.cons (.refl _) (.cons (.refl _) (.cons (.refl _) (.cons (.refl _) (.cons (frz_full rfl) (.cons (.refl _) .nil)))))) rfl) (.cons .same (.cons .same (.cons .same .nil)))))))) ?_
  refine RegJ.sees (Sees.freezeO 5 (fr' := [(8, vb y2.2), (10, vb y3.2), (39, .own 3 0 a0.length), (46, .own 6 0 1)]) (ob' := [none, none, none, some (.row 6 (List.set (List.map eTask a0) (a0.length - 1) (.agg [vt a1, vi a2, vi a3, eS 1 vt a4, eS 1 (eS 1 vt) a5, eS 2 ePartCount a6]))), none, none, some (.row 6 [.agg [vt (ix y1 1), vi y2.1, vi y3.1, .emp, .emp, .emp]])]) rfl (frz_row ePartCount_frzE _) (.cons (.refl _) (.cons (.refl _) (.cons (.refl _) (.cons (.refl _) .nil)))) (.cons .same (.cons .same (.cons .same (.cons (objFrz_set (fun _ => rfl) (.cons (.refl _) (.cons (.refl _) (.cons (.refl _) (.cons (.refl _) (.cons (.refl _) (.cons (frz_full rfl) .nil)))))) rfl) (.cons .same (.cons .same (.cons .same .nil)))))))) ?_
  refine RegJ.sees (Sees.obco (ob' := [none, none, none, some (.row 6 (List.map eTask (List.set a0 (a0.length - 1) (Task.mk a1 a2 a3 a4 a5 a6)))), none, none, some (.row 6 [.agg [vt (ix y1 1), vi y2.1, vi y3.1, .emp, .emp, .emp]])]) (.cons .same (.cons .same (.cons .same (.cons (objCo_set (fun _ => rfl) (.cons .same (.cons .same (.cons .same (.cons .same (.cons .same (.cons .same .nil))))))) (.cons .same (.cons .same (.cons .same .nil)))))))) ?_
  refine cK h fun c6 h => ?_
  refine jx 47 (.app 6 104 39 46) [none, none, none, none, none, none, some (.row 6 [.agg [vt (ix y1 1), vi y2.1, vi y3.1, .emp, .emp, .emp]]), some (.row 6 (List.set (List.map eTask ((List.set a0 (a0.length - 1) (Task.mk a1 a2 a3 a4 a5 a6)) ++ [(Task.mk (ix y1 1) y2.1 y3.1 ([] : List Str) ([] : List (List Str)) ([] : List PartCount))])) (((List.set a0 (a0.length - 1) (Task.mk a1 a2 a3 a4 a5 a6)) ++ [(Task.mk (ix y1 1) y2.1 y3.1 ([] : List Str) ([] : List (List Str)) ([] : List PartCount))]).length - 1) (.agg [vt (ix y1 1), vi y2.1, vi y3.1, .emp, .emp, .emp])))] (ok_app_raw (l := (List.set a0 (a0.length - 1) (Task.mk a1 a2 a3 a4 a5 a6))) (e := eTask) (x0 := (Task.mk (ix y1 1) y2.1 y3.1 ([] : List Str) ([] : List (List Str)) ([] : List PartCount))) (u := .own 6 0 1) (v := .agg [vt (ix y1 1), vi y2.1, vi y3.1, .emp, .emp, .emp]) (by simp) rfl rfl rfl rfl c6) rfl rfl ?_
  refine rk 2 (.d2 (.k (.i 47 (.own 7 0 (((List.set a0 (a0.length - 1) (Task.mk a1 a2 a3 a4 a5 a6)) ++ [(Task.mk (ix y1 1) y2.1 y3.1 ([] : List Str) ([] : List (List Str)) ([] : List PartCount))]).length)) (.i 49 (vb y2.2) .n)))) ?_
  refine gj (vb y3.2) 50 (.mov 10) 49 true rfl ?_
  refine pa 51 49 50 rfl rfl ?_
  refine jk 2 (.i 4 (.own 7 0 (((List.set a0 (a0.length - 1) (Task.mk a1 a2 a3 a4 a5 a6)) ++ [(Task.mk (ix y1 1) y2.1 y3.1 ([] : List Str) ([] : List (List Str)) ([] : List PartCount))]).length)) (.i 5 (vb (y2.2 && y3.2)) .n)) ?_
  refine q3 ?_
  have h := si h
  subst h
  exact DoneS.ret (S' := ⟨[(4, .own 3 0 (((List.set a0 (a0.length - 1) (Task.mk a1 a2 a3 a4 a5 a6)) ++ [(Task.mk (ix y1 1) y2.1 y3.1 ([] : List Str) ([] : List (List Str)) ([] : List PartCount))]).length)), (5, vb (y2.2 && y3.2))], [none, none, none, some (.row 6 (List.set (List.map eTask ((List.set a0 (a0.length - 1) (Task.mk a1 a2 a3 a4 a5 a6)) ++ [(Task.mk (ix y1 1) y2.1 y3.1 ([] : List Str) ([] : List (List Str)) ([] : List PartCount))])) (((List.set a0 (a0.length - 1) (Task.mk a1 a2 a3 a4 a5 a6)) ++ [(Task.mk (ix y1 1) y2.1 y3.1 ([] : List Str) ([] : List (List Str)) ([] : List PartCount))]).length - 1) (.agg [vt (ix y1 1), vi y2.1, vi y3.1, eS 1 vt ([] : List Str), .own 4 0 (([] : List (List Str)).length), .own 5 0 (([] : List PartCount).length)]))), some (.row 1 (List.map (eS 1 vt) ([] : List (List Str)))), some (.row 2 (List.map ePartCount ([] : List PartCount)))]⟩) (Sees.trans (Sees.co2 (fr' := [(4, .own 7 0 (((List.set a0 (a0.length - 1) (Task.mk a1 a2 a3 a4 a5 a6)) ++ [(Task.mk (ix y1 1) y2.1 y3.1 ([] : List Str) ([] : List (List Str)) ([] : List PartCount))]).length)), (5, vb (y2.2 && y3.2))]) (ob' := [none, none, none, none, none, none, some (.row 6 [.agg [vt (ix y1 1), vi y2.1, vi y3.1, .emp, .emp, .emp]]), some (.row 6 (List.set (List.map eTask ((List.set a0 (a0.length - 1) (Task.mk a1 a2 a3 a4 a5 a6)) ++ [(Task.mk (ix y1 1) y2.1 y3.1 ([] : List Str) ([] : List (List Str)) ([] : List PartCount))])) (((List.set a0 (a0.length - 1) (Task.mk a1 a2 a3 a4 a5 a6)) ++ [(Task.mk (ix y1 1) y2.1 y3.1 ([] : List Str) ([] : List (List Str)) ([] : List PartCount))]).length - 1) (.agg [vt (ix y1 1), vi y2.1, vi y3.1, eS 1 vt ([] : List Str), .own 8 0 0, .emp])))]) (.cons .same (.cons .same .nil)) (.cons .same (.cons .same (.cons .same (.cons .same (.cons .same (.cons .same (.cons .same (.cons (objLe_set (fun _ => rfl) (.cons .same (.cons .same (.cons .same (.cons .sl (.cons .own (.cons .same .nil)))))) rfl) .nil)))))))) 1) (Sees.trans (Sees.co2 (fr' := [(4, .own 7 0 (((List.set a0 (a0.length - 1) (Task.mk a1 a2 a3 a4 a5 a6)) ++ [(Task.mk (ix y1 1) y2.1 y3.1 ([] : List Str) ([] : List (List Str)) ([] : List PartCount))]).length)), (5, vb (y2.2 && y3.2))]) (ob' := [none, none, none, none, none, none, some (.row 6 [.agg [vt (ix y1 1), vi y2.1, vi y3.1, .emp, .emp, .emp]]), some (.row 6 (List.set (List.map eTask ((List.set a0 (a0.length - 1) (Task.mk a1 a2 a3 a4 a5 a6)) ++ [(Task.mk (ix y1 1) y2.1 y3.1 ([] : List Str) ([] : List (List Str)) ([] : List PartCount))])) (((List.set a0 (a0.length - 1) (Task.mk a1 a2 a3 a4 a5 a6)) ++ [(Task.mk (ix y1 1) y2.1 y3.1 ([] : List Str) ([] : List (List Str)) ([] : List PartCount))]).length - 1) (.agg [vt (ix y1 1), vi y2.1, vi y3.1, eS 1 vt ([] : List Str), .own 8 0 0, .own 9 0 0]))), some (.row 1 (List.map (eS 1 vt) ([] : List (List Str))))]) (.cons .same (.cons .same .nil)) (.cons .same (.cons .same (.cons .same (.cons .same (.cons .same (.cons .same (.cons .same (.cons (objLe_set (fun _ => rfl) (.cons .same (.cons .same (.cons .same (.cons .same (.cons .same (.cons .own .nil)))))) rfl) (.cons .same .nil))))))))) 2) (Sees.cov (Cov.mk2 (rs := [0, 1, 2, 7, 8, 9]) (by decide) rfl rfl (.cons (.inl (by simp only [List.length_set]; rfl)) (.cons (.inl rfl) .nil)) (.skip (.skip (.skip (obRen_set eTask_frz rfl rfl (obRen_row (eS_frz 1 vt) rfl (obRen_row ePartCount_frz rfl .nil)))))))))) rfl rfl
 refine q2 ?_
 refine q1 ?_
 refine sj ?_
 refine rk 2 (.k2 (.i 53 (vi (a0.length : Int)) .n)) ?_
 refine jo 54 (.bin .eql false 53 (ki 0)) (n_eql (i := a0.length) (j := 0) rfl rfl) ?_
 refine rk 1 (.d (.k2 (.i 55 (vb (decide (a0.length = 0))) .n))) ?_
 refine gj (eS 1 vt y1) 56 (.mov 6) 55 false rfl ?_
 refine gv 57 (.len 0 56) 55 false rfl (fun hg => (ok_len_m rfl)) (fun hg => (.cons hg .nil)) ?_
 refine gv 58 (.bin .lss false 57 (ki 2)) 55 false rfl (fun hg => (n_lss (i := y1.length) (j := 2) rfl rfl)) (fun hg => (.cons hg (.cons rfl .nil))) ?_
 refine po 59 55 58 rfl rfl ?_
 refine jf (.d4 (.k2 (.i 59 (vb ((decide (a0.length = 0)) || (decide (y1.length < 2)))) .n))) ?_
 refine tc h (fun c7 h => ?_) (fun c7 h => ?_)
 ·refine sk (.i 4 (.own 3 0 a0.length) (.i 5 (vb false) .n)) ?_
  refine q3 ?_
  have h := si h
  subst h
  exact DoneS.ret Sees.refl rfl rfl
 refine q2 ?_
 refine sj ?_
 refine rk 3 (.k2 (.i 61 (.own 3 0 a0.length) (.i 63 (vi (a0.length : Int)) .n))) ?_
 refine cK h fun c8 h => ?_
 refine jo 64 (.bin .sub false 63 (ki 1)) (r_sub rfl rfl c8) ?_
 refine cK h fun c9 h => ?_
 refine jo 65 (.iaddr 6 61 64) (ok_iaddr_o0 (j := a0.length - 1) rfl rfl rfl (last_to c9) (last_lt c9)) ?_
 refine jo 66 (.load true 6 65) (ok_load_set (l := a0) (e := eTask) (v := .agg [vt a1, vi a2, vi a3, eS 1 vt a4, .own 4 0 a5.length, .own 5 0 a6.length]) rfl rfl (last_lt c9) rfl) ?_
 refine jko 2 (.d3 (.k2 (.i 11 (.ptr 6 0 0) .n))) [none, none, none, some (.row 6 (List.set (List.map eTask a0) (a0.length - 1) (.agg [vt a1, vi a2, vi a3, eS 1 vt a4, .own 4 0 a5.length, .own 5 0 a6.length]))), some (.row 1 (List.map (eS 1 vt) a5)), some (.row 2 (List.map ePartCount a6)), some (.row 6 [.agg [vt a1, vi a2, vi a3, eS 1 vt a4, .own 4 0 a5.length, .own 5 0 a6.length]])] ?_
 refine q7 ?_
 refine sj ?_
 refine rk 1 (.k3 (.i 69 (eS 1 vt y1) .n)) ?_
 refine jo 70 (.iaddr 1 69 (ki 0)) (ok_iaddr_m (j := 0) rfl rfl rfl c1) ?_
 refine jo 71 (.load false 1 70) (ok_load_fm (v := vt (ix y1 0)) rfl c1 rfl) ?_
 refine rk 2 (.d2 (.k3 (.i 73 (vb ((ix y1 0) == ([110, 101, 101, 100, 115] : Str))) .n))) ?_
 refine gj (.ptr 6 0 3) 74 (.faddr 3 11) 73 true rfl ?_
 refine gk (eS 1 vt a4) 75 (.load false 1 74) 73 true rfl (fun hg => (.cons hg .nil)) ?_
 refine gv 76 (.len 0 75) 73 true rfl (fun hg => (ok_len_m rfl)) (fun hg => (.cons hg .nil)) ?_
 refine gv 77 (.bin .eql false 76 (ki 0)) 73 true rfl (fun hg => (n_eql (i := a4.length) (j := 0) rfl rfl)) (fun hg => (.cons hg (.cons rfl .nil))) ?_
 refine pa 78 73 77 rfl rfl ?_
 refine rk 1 (.d4 (.d (.k3 (.i 79 (vb (((ix y1 0) == ([110, 101, 101, 100, 115] : Str)) && (decide (a4.length = 0)))) .n)))) ?_
 refine gj (.ptr 6 0 4) 80 (.faddr 4 11) 79 true rfl ?_
 refine gk (.own 4 0 a5.length) 81 (.load false 1 80) 79 true rfl (fun hg => (.cons hg .nil)) ?_
 refine gk (vi (a5.length : Int)) 82 (.len 0 81) 79 true rfl (fun hg => (.cons hg .nil)) ?_
 refine gv 83 (.bin .eql false 82 (ki 0)) 79 true rfl (fun hg => (n_eql (i := a5.length) (j := 0) rfl rfl)) (fun hg => (.cons hg (.cons rfl .nil))) ?_
 refine pa 84 79 83 rfl rfl ?_
 refine rk 1 (.d4 (.d (.k3 (.i 85 (vb ((((ix y1 0) == ([110, 101, 101, 100, 115] : Str)) && (decide (a4.length = 0))) && (decide (a5.length = 0)))) .n)))) ?_
 refine gj (.ptr 6 0 5) 86 (.faddr 5 11) 85 true rfl ?_
 refine gk (.own 5 0 a6.length) 87 (.load false 1 86) 85 true rfl (fun hg => (.cons hg .nil)) ?_
 refine gk (vi (a6.length : Int)) 88 (.len 0 87) 85 true rfl (fun hg => (.cons hg .nil)) ?_
 refine gv 89 (.bin .eql false 88 (ki 0)) 85 true rfl (fun hg => (n_eql (i := a6.length) (j := 0) rfl rfl)) (fun hg => (.cons hg (.cons rfl .nil))) ?_
 refine pa 90 85 89 rfl rfl ?_
 refine jk 1 (.d4 (.d (.k3 (.i 68 (vb (((((ix y1 0) == ([110, 101, 101, 100, 115] : Str)) && (decide (a4.length = 0))) && (decide (a5.length = 0))) && (decide (a6.length = 0)))) .n)))) ?_
 refine tc h (fun c10 h => ?_) (fun c10 h => ?_)
 ·refine q6 ?_
  refine rk 1 (.k (.d (.k (.i 91 (eS 1 vt y1) .n)))) ?_
  refine cK h fun c11 h => ?_
  refine jo 92 (.slc 1 91 (some (ki 1)) none none) (ok_slc_lo (j := 1) rfl rfl rfl c11) ?_
  refine jko 2 (.d (.k2 .n)) [none, none, none, some (.row 6 (List.set (List.map eTask a0) (a0.length - 1) (.agg [vt a1, vi a2, vi a3, eS 1 vt a4, .own 4 0 a5.length, .own 5 0 a6.length]))), some (.row 1 (List.map (eS 1 vt) a5)), some (.row 2 (List.map ePartCount a6)), some (.row 6 [.agg [vt a1, vi a2, vi a3, eS 1 vt (List.drop 1 y1), .own 4 0 a5.length, .own 5 0 a6.length]])] ?_
  refine sj ?_
  refine rk 3 (.k2 (.i 142 (.own 3 0 a0.length) (.i 144 (vi (a0.length : Int)) .n))) ?_
  refine jo 145 (.bin .sub false 144 (ki 1)) (r_sub rfl rfl c8) ?_
  refine rk 1 (.d (.k (.d (.k (.i 145 (vi ((a0.length : Int) - 1)) (.i 146 (.agg [vt a1, vi a2, vi a3, eS 1 vt (List.drop 1 y1), .own 4 0 a5.length, .own 5 0 a6.length]) .n)))))) ?_
  refine jo 147 (.iaddr 6 142 145) (ok_iaddr_o0 (j := a0.length - 1) rfl rfl rfl (last_to c9) (last_lt c9)) ?_
  refine jn (.store 6 147 146) [none, none, none, some (.row 6 (List.set (List.map eTask a0) (a0.length - 1) (.agg [vt a1, vi a2, vi a3, eS 1 vt (List.drop 1 y1), .own 4 0 a5.length, .own 5 0 a6.length]))), some (.row 1 (List.map (eS 1 vt) a5)), some (.row 2 (List.map ePartCount a6)), some (.row 6 [.agg [vt a1, vi a2, vi a3, eS 1 vt (List.drop 1 y1), .own 4 0 a5.length, .own 5 0 a6.length]])] (ok_store_s (l := a0) (e := eTask) (X' := .agg [vt a1, vi a2, vi a3, eS 1 vt (List.drop 1 y1), .own 4 0 a5.length, .own 5 0 a6.length]) (u := .agg [vt a1, vi a2, vi a3, eS 1 vt (List.drop 1 y1), .own 4 0 a5.length, .own 5 0 a6.length]) rfl rfl rfl (last_lt c9) rfl rfl) rfl rfl ?_
  refine jf (.d (.k .n)) ?_
  refine sk (.i 4 (.own 3 0 a0.length) (.i 5 (vb true) .n)) ?_
  refine q3 ?_
  have h := si h
  subst h
  exact DoneS.ret (S' := ⟨[(4, .own 3 0 a0.length), (5, vb true)], [none, none, none, some (.row 6 (List.set (List.map eTask a0) (a0.length - 1) (.agg [vt a1, vi a2, vi a3, eS 1 vt (List.drop 1 y1), .own 4 0 a5.length, .own 5 0 a6.length]))), some (.row 1 (List.map (eS 1 vt) a5)), some (.row 2 (List.map ePartCount a6))]⟩) (sc [0, 1, 2, 3, 4, 5] (by decide) (by kernel_rfl) (.skip (.skip (.skip (obRen_set eTask_frz rfl rfl (obRen_row (eS_frz 1 vt) rfl (obRen_row ePartCount_frz rfl .nil)))))) rfl rfl) rfl rfl
 refine sj ?_
 refine rk 1 (.k3 (.i 95 (eS 1 vt y1) .n)) ?_
 refine jo 96 (.iaddr 1 95 (ki 0)) (ok_iaddr_m (j := 0) rfl rfl rfl c1) ?_
 refine jo 97 (.load false 1 96) (ok_load_fm (v := vt (ix y1 0)) rfl c1 rfl) ?_
 refine rk 2 (.d2 (.k3 (.i 99 (vb ((ix y1 0) == ([111, 110, 101, 111, 102] : Str))) .n))) ?_
 refine gj (.ptr 6 0 5) 100 (.faddr 5 11) 99 true rfl ?_
 refine gk (.own 5 0 a6.length) 101 (.load false 1 100) 99 true rfl (fun hg => (.cons hg .nil)) ?_
 refine gk (vi (a6.length : Int)) 102 (.len 0 101) 99 true rfl (fun hg => (.cons hg .nil)) ?_
 refine gv 103 (.bin .eql false 102 (ki 0)) 99 true rfl (fun hg => (n_eql (i := a6.length) (j := 0) rfl rfl)) (fun hg => (.cons hg (.cons rfl .nil))) ?_
 refine pa 104 99 103 rfl rfl ?_
 refine jk 1 (.d4 (.d (.k3 (.i 94 (vb (((ix y1 0) == ([111, 110, 101, 111, 102] : Str)) && (decide (a6.length = 0)))) .n)))) ?_
 refine tc h (fun c12 h => ?_) (fun c12 h => ?_)
 ·refine ts (.k3 .n) ?_
  refine TriE.draw (by kernel_rfl) ?_
  refine dk 3 (.i 107 (eS 1 vt y1) (.i 106 (.own 4 0 a5.length) (.i 105 (.ptr 6 0 4) .a))) ?_
  refine cK h fun c13 h => ?_
  refine dp 108 (.slc 1 107 (some (ki 1)) none none) (ok_slc_lo (j := 1) rfl rfl rfl c13) ?_
  refine dko 1 (.i 109 (.own 11 0 1) .a) [none, none, none, some (.row 6 (List.set (List.map eTask a0) (a0.length - 1) (.agg [vt a1, vi a2, vi a3, eS 1 vt a4, .own 4 0 a5.length, .own 5 0 a6.length]))), some (.row 1 (List.map (eS 1 vt) a5)), some (.row 2 (List.map ePartCount a6)), some (.row 6 [.agg [vt a1, vi a2, vi a3, eS 1 vt a4, .own 4 0 a5.length, .own 5 0 a6.length]]), none, none, none, none, some (.row 1 [eS 1 vt (List.drop 1 y1)])] ?_
  refine cK h fun c14 h => ?_
  refine dx 110 (.app 1 24 106 109) [none, none, none, some (.row 6 (List.set (List.map eTask a0) (a0.length - 1) (.agg [vt a1, vi a2, vi a3, eS 1 vt a4, .own 4 0 a5.length, .own 5 0 a6.length]))), none, some (.row 2 (List.map ePartCount a6)), some (.row 6 [.agg [vt a1, vi a2, vi a3, eS 1 vt a4, .own 4 0 a5.length, .own 5 0 a6.length]]), none, none, none, none, some (.row 1 [eS 1 vt (List.drop 1 y1)]), some (.row 1 (List.map (eS 1 vt) (a5 ++ ([(List.drop 1 y1)] : List (List Str)))))] (ok_app_own (l := a5) (l2 := ([(List.drop 1 y1)] : List (List Str))) (e := (eS 1 vt)) (u := .own 11 0 1) rfl rfl rfl rfl rfl c14) rfl rfl ?_
  refine dko 2 (.i 111 (.ptr 6 0 4) .a) [none, none, none, some (.row 6 (List.set (List.map eTask a0) (a0.length - 1) (.agg [vt a1, vi a2, vi a3, eS 1 vt a4, .own 4 0 a5.length, .own 5 0 a6.length]))), none, some (.row 2 (List.map ePartCount a6)), some (.row 6 [.agg [vt a1, vi a2, vi a3, eS 1 vt a4, .own 12 0 ((a5 ++ ([(List.drop 1 y1)] : List (List Str))).length), .own 5 0 a6.length]]), none, none, none, none, some (.row 1 [eS 1 vt (List.drop 1 y1)]), some (.row 1 (List.map (eS 1 vt) (a5 ++ ([(List.drop 1 y1)] : List (List Str))))), none, none] ?_
  refine dfi (ob' := [none, none, none, some (.row 6 (List.set (List.map eTask a0) (a0.length - 1) (.agg [vt a1, vi a2, vi a3, eS 1 vt a4, .own 4 0 a5.length, .own 5 0 a6.length]))), none, some (.row 2 (List.map ePartCount a6)), some (.row 6 [.agg [vt a1, vi a2, vi a3, eS 1 vt a4, .own 7 0 ((a5 ++ ([(List.drop 1 y1)] : List (List Str))).length), .own 5 0 a6.length]]), some (.row 1 (List.map (eS 1 vt) (a5 ++ ([(List.drop 1 y1)] : List (List Str)))))]) (.d4 (.d3 (.k (.d .a)))) [0, 1, 2, 3, 4, 5, 6, 12] (.skip (.skip (.skip (obRen_set eTask_frz rfl rfl (.skip (obRen_row ePartCount_frz rfl (.cons rfl (obRen_row (eS_frz 1 vt) rfl .nil)))))))) ?_
  refine sj ?_
  refine rk 3 (.k2 (.i 142 (.own 3 0 a0.length) (.i 144 (vi (a0.length : Int)) .n))) ?_
  refine jo 145 (.bin .sub false 144 (ki 1)) (r_sub rfl rfl c8) ?_
  refine rk 1 (.d (.k (.d (.k (.i 145 (vi ((a0.length : Int) - 1)) (.i 146 (.agg [vt a1, vi a2, vi a3, eS 1 vt a4, .own 7 0 ((a5 ++ ([(List.drop 1 y1)] : List (List Str))).length), .own 5 0 a6.length]) .n)))))) ?_
  refine jo 147 (.iaddr 6 142 145) (ok_iaddr_o0 (j := a0.length - 1) rfl rfl rfl (last_to c9) (last_lt c9)) ?_
  refine jn (.store 6 147 146) [none, none, none, some (.row 6 (List.set (List.map eTask a0) (a0.length - 1) (.agg [vt a1, vi a2, vi a3, eS 1 vt a4, .own 7 0 ((a5 ++ ([(List.drop 1 y1)] : List (List Str))).length), .own 5 0 a6.length]))), none, some (.row 2 (List.map ePartCount a6)), some (.row 6 [.agg [vt a1, vi a2, vi a3, eS 1 vt a4, .own 7 0 ((a5 ++ ([(List.drop 1 y1)] : List (List Str))).length), .own 5 0 a6.length]]), some (.row 1 (List.map (eS 1 vt) (a5 ++ ([(List.drop 1 y1)] : List (List Str)))))] (ok_store_s (l := a0) (e := eTask) (X' := .agg [vt a1, vi a2, vi a3, eS 1 vt a4, .own 7 0 ((a5 ++ ([(List.drop 1 y1)] : List (List Str))).length), .own 5 0 a6.length]) (u := .agg [vt a1, vi a2, vi a3, eS 1 vt a4, .own 7 0 ((a5 ++ ([(List.drop 1 y1)] : List (List Str))).length), .own 5 0 a6.length]) rfl rfl rfl (last_lt c9) rfl rfl) rfl rfl ?_
  refine jf (.d (.k .n)) ?_
  refine sk (.i 4 (.own 3 0 a0.length) (.i 5 (vb true) .n)) ?_
  refine q3 ?_
  have h := si h
  subst h
  exact DoneS.ret (S' := ⟨[(4, .own 3 0 a0.length), (5, vb true)], [none, none, none, some (.row 6 (List.set (List.map eTask a0) (a0.length - 1) (.agg [vt a1, vi a2, vi a3, eS 1 vt a4, .own 4 0 ((a5 ++ ([(List.drop 1 y1)] : List (List Str))).length), .own 5 0 a6.length]))), some (.row 1 (List.map (eS 1 vt) (a5 ++ ([(List.drop 1 y1)] : List (List Str))))), some (.row 2 (List.map ePartCount a6))]⟩) (sc [0, 1, 2, 3, 7, 5] (by decide) (by kernel_rfl) (.skip (.skip (.skip (obRen_set eTask_frz rfl rfl (obRen_row (eS_frz 1 vt) rfl (obRen_row ePartCount_frz rfl .nil)))))) rfl rfl) rfl rfl
 refine sj ?_
 refine rk 1 (.k3 (.i 113 (eS 1 vt y1) .n)) ?_
 refine jo 114 (.iaddr 1 113 (ki 0)) (ok_iaddr_m (j := 0) rfl rfl rfl c1) ?_
 refine jo 115 (.load false 1 114) (ok_load_fm (v := vt (ix y1 0)) rfl c1 rfl) ?_
 refine rk 2 (.d2 (.k3 (.i 117 (vb ((ix y1 0) == ([112, 97, 114, 116] : Str))) .n))) ?_
 refine gj (eS 1 vt y1) 118 (.mov 6) 117 true rfl ?_
 refine gv 119 (.len 0 118) 117 true rfl (fun hg => (ok_len_m rfl)) (fun hg => (.cons hg .nil)) ?_
 refine gv 120 (.bin .eql false 119 (ki 3)) 117 true rfl (fun hg => (n_eql (i := y1.length) (j := 3) rfl rfl)) (fun hg => (.cons hg (.cons rfl .nil))) ?_
 refine pa 121 117 120 rfl rfl ?_
 refine jk 1 (.d4 (.k3 (.i 112 (vb (((ix y1 0) == ([112, 97, 114, 116] : Str)) && (decide (y1.length = 3)))) .n))) ?_
 refine tc h (fun c15 h => ?_) (fun c15 h => ?_)
 ·refine sj ?_
  refine rk 1 (.k3 (.i 123 (eS 1 vt y1) .n)) ?_
  refine cK h fun c16 h => ?_
  refine jo 124 (.iaddr 1 123 (ki 2)) (ok_iaddr_m (j := 2) rfl rfl rfl c16) ?_
  refine jo 125 (.load false 1 124) (ok_load_fm (v := vt (ix y1 2)) rfl c16 rfl) ?_
  refine bK h fun y4 hy4 h => ?_
  refine jc 126 [125, (ki 10)] (agraffebase_Number_ok n (ix y1 2) 10 y4 hy4) ?_
  refine jk 5 (.d3 (.k3 (.i 12 (vi y4.1) (.i 13 (vb y4.2) .n)))) ?_
  refine q1 ?_
  refine sk (.k4 (.i 130 (vb (!y4.2)) .n)) ?_
  refine tc h (fun c17 h => ?_) (fun c17 h => ?_)
  ·refine sk (.i 4 (.own 3 0 a0.length) (.i 5 (vb false) .n)) ?_
   refine q3 ?_
   have h := si h
   subst h
   exact DoneS.ret (S' := ⟨[(4, .own 3 0 a0.length), (5, vb false)], [none, none, none, some (.row 6 (List.set (List.map eTask a0) (a0.length - 1) (.agg [vt a1, vi a2, vi a3, eS 1 vt a4, .own 4 0 a5.length, .own 5 0 a6.length]))), some (.row 1 (List.map (eS 1 vt) a5)), some (.row 2 (List.map ePartCount a6))]⟩) (sc [0, 1, 2, 3, 4, 5] (by decide) (by kernel_rfl) (.skip (.skip (.skip (obRen_set eTask_frz rfl rfl (obRen_row (eS_frz 1 vt) rfl (obRen_row ePartCount_frz rfl .nil)))))) rfl rfl) rfl rfl
  refine q2 ?_
  refine ts (.k4 .n) ?_
  refine TriE.draw (by kernel_rfl) ?_
  refine dk 3 (.i 134 (eS 1 vt y1) (.i 133 (.own 5 0 a6.length) (.i 132 (.ptr 6 0 5) .a))) ?_
  refine cK h fun c18 h => ?_
  refine dp 135 (.iaddr 1 134 (ki 1)) (ok_iaddr_m (j := 1) rfl rfl rfl c18) ?_
  refine dp 136 (.load false 1 135) (ok_load_fm (v := vt (ix y1 1)) rfl c18 rfl) ?_
  refine dko 3 (.i 139 (.own 14 0 1) (.i 138 (.agg [vt (ix y1 1), vi y4.1]) (.i 137 (vi y4.1) .a))) [none, none, none, some (.row 6 (List.set (List.map eTask a0) (a0.length - 1) (.agg [vt a1, vi a2, vi a3, eS 1 vt a4, .own 4 0 a5.length, .own 5 0 a6.length]))), some (.row 1 (List.map (eS 1 vt) a5)), some (.row 2 (List.map ePartCount a6)), some (.row 6 [.agg [vt a1, vi a2, vi a3, eS 1 vt a4, .own 4 0 a5.length, .own 5 0 a6.length]]), none, none, none, none, none, none, none, some (.row 2 [.agg [vt (ix y1 1), vi y4.1]])] ?_
  refine cK h fun c19 h => ?_
  refine dx 140 (.app 2 24 133 139) [none, none, none, some (.row 6 (List.set (List.map eTask a0) (a0.length - 1) (.agg [vt a1, vi a2, vi a3, eS 1 vt a4, .own 4 0 a5.length, .own 5 0 a6.length]))), some (.row 1 (List.map (eS 1 vt) a5)), none, some (.row 6 [.agg [vt a1, vi a2, vi a3, eS 1 vt a4, .own 4 0 a5.length, .own 5 0 a6.length]]), none, none, none, none, none, none, none, some (.row 2 [.agg [vt (ix y1 1), vi y4.1]]), some (.row 2 (List.map ePartCount (a6 ++ ([(PartCount.mk (ix y1 1) y4.1)] : List PartCount))))] (ok_app_own (l := a6) (l2 := ([(PartCount.mk (ix y1 1) y4.1)] : List PartCount)) (e := ePartCount) (u := .own 14 0 1) rfl rfl rfl rfl rfl c19) rfl rfl ?_
  refine dko 2 (.i 141 (.ptr 6 0 5) .a) [none, none, none, some (.row 6 (List.set (List.map eTask a0) (a0.length - 1) (.agg [vt a1, vi a2, vi a3, eS 1 vt a4, .own 4 0 a5.length, .own 5 0 a6.length]))), some (.row 1 (List.map (eS 1 vt) a5)), none, some (.row 6 [.agg [vt a1, vi a2, vi a3, eS 1 vt a4, .own 4 0 a5.length, .own 15 0 ((a6 ++ ([(PartCount.mk (ix y1 1) y4.1)] : List PartCount)).length)]]), none, none, none, none, none, none, none, some (.row 2 [.agg [vt (ix y1 1), vi y4.1]]), some (.row 2 (List.map ePartCount (a6 ++ ([(PartCount.mk (ix y1 1) y4.1)] : List PartCount)))), none, none] ?_
  refine dfi (ob' := [none, none, none, some (.row 6 (List.set (List.map eTask a0) (a0.length - 1) (.agg [vt a1, vi a2, vi a3, eS 1 vt a4, .own 4 0 a5.length, .own 5 0 a6.length]))), some (.row 1 (List.map (eS 1 vt) a5)), none, some (.row 6 [.agg [vt a1, vi a2, vi a3, eS 1 vt a4, .own 4 0 a5.length, .own 7 0 ((a6 ++ ([(PartCount.mk (ix y1 1) y4.1)] : List PartCount)).length)]]), some (.row 2 (List.map ePartCount (a6 ++ ([(PartCount.mk (ix y1 1) y4.1)] : List PartCount))))]) (.d4 (.d4 (.d2 (.k (.d (.k .n)))))) [0, 1, 2, 3, 4, 5, 6, 15] (.skip (.skip (.skip (obRen_set eTask_frz rfl rfl (obRen_row (eS_frz 1 vt) rfl (.skip (.cons rfl (obRen_row ePartCount_frz rfl .nil)))))))) ?_
  refine sj ?_
  refine rk 3 (.k2 (.i 142 (.own 3 0 a0.length) (.i 144 (vi (a0.length : Int)) .n))) ?_
  refine jo 145 (.bin .sub false 144 (ki 1)) (r_sub rfl rfl c8) ?_
  refine rk 1 (.d (.k (.d (.k (.i 145 (vi ((a0.length : Int) - 1)) (.i 146 (.agg [vt a1, vi a2, vi a3, eS 1 vt a4, .own 4 0 a5.length, .own 7 0 ((a6 ++ ([(PartCount.mk (ix y1 1) y4.1)] : List PartCount)).length)]) .n)))))) ?_
  refine jo 147 (.iaddr 6 142 145) (ok_iaddr_o0 (j := a0.length - 1) rfl rfl rfl (last_to c9) (last_lt c9)) ?_
  refine jn (.store 6 147 146) [none, none, none, some (.row 6 (List.set (List.map eTask a0) (a0.length - 1) (.agg [vt a1, vi a2, vi a3, eS 1 vt a4, .own 4 0 a5.length, .own 7 0 ((a6 ++ ([(PartCount.mk (ix y1 1) y4.1)] : List PartCount)).length)]))), some (.row 1 (List.map (eS 1 vt) a5)), none, some (.row 6 [.agg [vt a1, vi a2, vi a3, eS 1 vt a4, .own 4 0 a5.length, .own 7 0 ((a6 ++ ([(PartCount.mk (ix y1 1) y4.1)] : List PartCount)).length)]]), some (.row 2 (List.map ePartCount (a6 ++ ([(PartCount.mk (ix y1 1) y4.1)] : List PartCount))))] (ok_store_s (l := a0) (e := eTask) (X' := .agg [vt a1, vi a2, vi a3, eS 1 vt a4, .own 4 0 a5.length, .own 7 0 ((a6 ++ ([(PartCount.mk (ix y1 1) y4.1)] : List PartCount)).length)]) (u := .agg [vt a1, vi a2, vi a3, eS 1 vt a4, .own 4 0 a5.length, .own 7 0 ((a6 ++ ([(PartCount.mk (ix y1 1) y4.1)] : List PartCount)).length)]) rfl rfl rfl (last_lt c9) rfl rfl) rfl rfl ?_
  refine jf (.d (.k .n)) ?_
  refine sk (.i 4 (.own 3 0 a0.length) (.i 5 (vb true) .n)) ?_
  refine q3 ?_
  have h := si h
  subst h
  exact DoneS.ret (S' := ⟨[(4, .own 3 0 a0.length), (5, vb true)], [none, none, none, some (.row 6 (List.set (List.map eTask a0) (a0.length - 1) (.agg [vt a1, vi a2, vi a3, eS 1 vt a4, .own 4 0 a5.length, .own 5 0 ((a6 ++ ([(PartCount.mk (ix y1 1) y4.1)] : List PartCount)).length)]))), some (.row 1 (List.map (eS 1 vt) a5)), some (.row 2 (List.map ePartCount (a6 ++ ([(PartCount.mk (ix y1 1) y4.1)] : List PartCount))))]⟩) (sc [0, 1, 2, 3, 4, 7] (by decide) (by kernel_rfl) (.skip (.skip (.skip (obRen_set eTask_frz rfl rfl (obRen_row (eS_frz 1 vt) rfl (obRen_row ePartCount_frz rfl .nil)))))) rfl rfl) rfl rfl
 refine sk (.i 4 (.own 3 0 a0.length) (.i 5 (vb false) .n)) ?_
 refine q3 ?_
 have h := si h
 subst h
 exact DoneS.ret (S' := ⟨[(4, .own 3 0 a0.length), (5, vb false)], [none, none, none, some (.row 6 (List.set (List.map eTask a0) (a0.length - 1) (.agg [vt a1, vi a2, vi a3, eS 1 vt a4, .own 4 0 a5.length, .own 5 0 a6.length]))), some (.row 1 (List.map (eS 1 vt) a5)), some (.row 2 (List.map ePartCount a6))]⟩) (sc [0, 1, 2, 3, 4, 5] (by decide) (by kernel_rfl) (.skip (.skip (.skip (obRen_set eTask_frz rfl rfl (obRen_row (eS_frz 1 vt) rfl (obRen_row ePartCount_frz rfl .nil)))))) rfl rfl) rfl rfl
set_option maxHeartbeats 1000000 in
theorem agrafferef08_Parse_ok (n : Nat) (a0 : Str) (r : Int × Int × (List Task)) (h : agrafferef08_Parse n a0 = some r) : FnL Tryz.prog 28 [vt a0] [] (.tup [eS 6 eTask r.2.2, vi r.2.1, vi r.1]) [] := by
 dsimp only [agrafferef08_Parse] at h
 refine fo [2, 3, 4] Tryz.call28 Tryz.func28 rfl ?_
 refine sk .a ?_
 refine q1 ?_
 refine sj ?_
 refine rk 1 (.k (.i 12 (vt a0) .n)) ?_
 refine jo 13 (.len 1 12) (ok_len_t rfl) ?_
 refine jo 14 (.bin .gtr false 13 (ki 60000)) (n_gtr (i := a0.length) (j := 60000) rfl rfl) ?_
 refine jf (.d2 (.k (.i 14 (vb (decide (60000 < a0.length))) .n))) ?_
 refine tc h (fun c1 h => ?_) (fun c1 h => ?_)
 ·refine sk (.i 2 .emp (.i 3 (vi 0) (.i 4 (vi 8) .n))) ?_
  refine q3 ?_
  have h := si h
  subst h
  exact DoneS.ret (S' := ⟨[(2, eS 6 eTask ([] : List Task)), (3, vi 0), (4, vi 8)], []⟩) (Sees.trans (Sees.vco (fr' := [(2, eS 6 eTask ([] : List Task)), (3, vi 0), (4, vi 8)]) (.cons .sl (.cons .same (.cons .same .nil)))) sy) rfl rfl
 refine q2 ?_
 refine sj ?_
 refine rk 1 (.i 15 (vt a0) .n) ?_
 refine bK h fun y1 hy1 h => ?_
 refine jc 16 [15, (.c (.p (.int .u8 10)))] (agraffebase_Cut_ok n a0 10 y1 hy1) ?_
 refine jk 1 (.i 5 (eS 1 vt y1) .n) ?_
 refine sj ?_
 refine rk 1 (.k (.i 17 (eS 1 vt y1) .n)) ?_
 refine jo 18 (.len 0 17) (ok_len_m rfl) ?_
 refine cK h fun c2 h => ?_
 refine jo 19 (.bin .sub false 18 (ki 1)) (r_sub rfl rfl c2) ?_
 refine jk 1 (.d2 (.k (.i 6 (vi ((y1.length : Int) - 1)) .n))) ?_
 refine sk (.k2 (.i 7 .emp .n)) ?_
 refine TriE.seqK h (fun (t : (List Task) × Str × Int × Int × (List Str) × (List PartCount) × (List (List Str))) => match t with | (v18, v19, v20, v21, v22, v23, v24) => St.mk [(5, eS 1 vt y1), (6, vi ((y1.length : Int) - 1)), (7, .own 0 0 v18.length)] [some (.row 6 (List.set (List.map eTask v18) (v18.length - 1) (.agg [vt v19, vi v20, vi v21, eS 1 vt v22, .own 1 0 v24.length, .own 2 0 v23.length]))), some (.row 1 (List.map (eS 1 vt) v24)), some (.row 2 (List.map ePartCount v23))]) ?_ ?_
 ·rintro ⟨v18, v19, v20, v21, v22, v23, v24⟩ h
  refine q1 ?_
  refine sj ?_
  refine rk 2 (.d (.k2 (.i 39 (eS 1 vt y1) (.i 40 (vi ((y1.length : Int) - 1)) .n)))) ?_
  refine cK h fun c8 h => ?_
  refine jo 41 (.iaddr 1 39 40) (ok_iaddr_m (j := ((y1.length : Int) - 1).toNat) rfl rfl (inB_to c8) (inB_lt c8)) ?_
  refine cK h fun c9 h => ?_
  refine jo 42 (.load false 1 41) (ok_load_fm (v := vt (ix y1 (((y1.length : Int) - 1).toNat))) rfl c9 rfl) ?_
  refine jk 1 (.d2 (.k2 (.i 43 (vb (!((ix y1 (((y1.length : Int) - 1).toNat)) == ([] : Str)))) .n))) ?_
  refine tc h (fun c10 h => ?_) (fun c10 h => ?_)
  ·refine sj ?_
   refine rk 1 (.i 44 (vi ((y1.length : Int) - 1)) .n) ?_
   refine cK h fun c11 h => ?_
   refine jo 45 (.bin .add false 44 (ki 1)) (r_add rfl rfl c11) ?_
   refine jk 3 (.i 2 .emp (.i 3 (vi (((y1.length : Int) - 1) + 1)) (.i 4 (vi 7) .n))) ?_
   refine q3 ?_
   have h := si h
   subst h
   exact DoneS.ret (S' := ⟨[(2, eS 6 eTask ([] : List Task)), (3, vi (((y1.length : Int) - 1) + 1)), (4, vi 7)], []⟩) (Sees.trans (Sees.vco (fr' := [(2, eS 6 eTask ([] : List Task)), (3, vi (((y1.length : Int) - 1) + 1)), (4, vi 7)]) (.cons .sl (.cons .same (.cons .same .nil)))) (sc [] (by decide) (by kernel_rfl) ObRen.nil rfl rfl)) rfl rfl
  refine q2 ?_
  refine q1 ?_
  refine sj ?_
  refine rk 1 (.d (.k (.i 46 (.own 0 0 v18.length) .n))) ?_
  refine RegJ.sees (Sees.freezeO 1 (fr' := [(7, .own 0 0 v18.length), (46, .own 0 0 v18.length)]) (ob' := [some (.row 6 (List.set (List.map eTask v18) (v18.length - 1) (.agg [vt v19, vi v20, vi v21, eS 1 vt v22, eS 1 (eS 1 vt) v24, .own 2 0 v23.length]))), none, some (.row 2 (List.map ePartCount v23))]) rfl (frz_row (eS_frzE 1 vt) _) (.cons (.refl _) (.cons (.refl _) .nil)) (.cons (objFrz_set (fun _ => rfl) (.cons (.refl _) (.cons (.refl _) (.cons (.refl _) (.cons (.refl _) (.cons (frz_full rfl) (.cons (.refl _) .nil)))))) rfl) (.cons .same (.cons .same .nil)))) ?_
  refine RegJ.sees (Sees.freezeO 2 (fr' := [(7, .own 0 0 v18.length), (46, .own 0 0 v18.length)]) (ob' := [some (.row 6 (List.set (List.map eTask v18) (v18.length - 1) (.agg [vt v19, vi v20, vi v21, eS 1 vt v22, eS 1 (eS 1 vt) v24, eS 2 ePartCount v23]))), none, none]) rfl (frz_row ePartCount_frzE _) (.cons (.refl _) (.cons (.refl _) .nil)) (.cons (objFrz_set (fun _ => rfl) (.cons (.refl _) (.cons (.refl _) (.cons (.refl _) (.cons (.refl _) (.cons (.refl _) (.cons (frz_full rfl) .nil)))))) rfl) (.cons .same (.cons .same .nil)))) ?_
  refine RegJ.sees (Sees.obco (ob' := [some (.row 6 (List.map eTask (List.set v18 (v18.length - 1) (Task.mk v19 v20 v21 v22 v24 v23)))), none, none]) (.cons (objCo_set (fun _ => rfl) (.cons .same (.cons .same (.cons .same (.cons .same (.cons .same (.cons .same .nil))))))) (.cons .same (.cons .same .nil)))) ?_
  refine RegJ.sees (Sees.freeze 0 (fr' := [(7, eS 6 eTask (List.set v18 (v18.length - 1) (Task.mk v19 v20 v21 v22 v24 v23))), (46, eS 6 eTask (List.set v18 (v18.length - 1) (Task.mk v19 v20 v21 v22 v24 v23)))]) (ob' := [none, none, none]) rfl (frz_row eTask_frzE _) (.cons (frz_full (by simp)) (.cons (frz_full (by simp)) .nil)) rfl) ?_
  refine bK h fun y25 hy25 h => ?_
  refine jc 47 [46] (agrafferef08_CheckTasks_ok n (List.set v18 (v18.length - 1) (Task.mk v19 v20 v21 v22 v24 v23)) y25 hy25) ?_
  refine jk 1 (.d (.k (.i 11 (vi y25) .n))) ?_
  refine sk (.k2 (.i 49 (vb (y25 != (0 : Int))) .n)) ?_
  refine tc h (fun c12 h => ?_) (fun c12 h => ?_)
  ·refine sk (.i 2 .emp (.i 3 (vi 0) (.i 4 (vi y25) .n))) ?_
   refine q3 ?_
   have h := si h
   subst h
   exact DoneS.ret (S' := ⟨[(2, eS 6 eTask ([] : List Task)), (3, vi 0), (4, vi y25)], []⟩) (Sees.trans (Sees.vco (fr' := [(2, eS 6 eTask ([] : List Task)), (3, vi 0), (4, vi y25)]) (.cons .sl (.cons .same (.cons .same .nil)))) (sc [] (by decide) (by kernel_rfl) ObRen.nil rfl rfl)) rfl rfl
  refine q2 ?_
  refine sk (.i 2 (eS 6 eTask (List.set v18 (v18.length - 1) (Task.mk v19 v20 v21 v22 v24 v23))) (.i 3 (vi 0) (.i 4 (vi 0) .n))) ?_
  refine q3 ?_
  have h := si h
  subst h
  exact DoneS.ret (S' := ⟨[(2, eS 6 eTask (List.set v18 (v18.length - 1) (Task.mk v19 v20 v21 v22 v24 v23))), (3, vi 0), (4, vi 0)], []⟩) (sc [] (by decide) (by kernel_rfl) ObRen.nil rfl rfl) rfl rfl
 intro k1 h
 refine sk (.k3 (.i 8 (vi 0) .n)) ?_
 refine q4 ?_
 refine TriE.sees (S' := ⟨[(5, eS 1 vt y1), (6, vi ((y1.length : Int) - 1)), (7, .own 0 0 ([] : List Task).length), (8, vi 0)], [some (.row 6 (List.set (List.map eTask ([] : List Task)) (([] : List Task).length - 1) (.agg [vt ([] : Str), vi 0, vi 0, eS 1 vt ([] : List Str), .own 1 0 ([] : List (List Str)).length, .own 2 0 ([] : List PartCount).length]))), some (.row 1 (List.map (eS 1 vt) ([] : List (List Str)))), some (.row 2 (List.map ePartCount ([] : List PartCount)))]⟩) (Sees.trans (Sees.co (fr' := [(5, eS 1 vt y1), (6, vi ((y1.length : Int) - 1)), (7, .own 0 0 0), (8, vi 0)]) (ob' := []) (.cons .same (.cons .same (.cons .own (.cons .same .nil)))) ObCo.nil 6) (Sees.trans (Sees.co (fr' := [(5, eS 1 vt y1), (6, vi ((y1.length : Int) - 1)), (7, .own 0 0 0), (8, vi 0)]) (ob' := [some (.row 6 (List.map eTask ([] : List Task)))]) (.cons .same (.cons .same (.cons .same (.cons .same .nil)))) (.same .nil) 1) (Sees.trans (Sees.co (fr' := [(5, eS 1 vt y1), (6, vi ((y1.length : Int) - 1)), (7, .own 0 0 0), (8, vi 0)]) (ob' := [some (.row 6 (List.map eTask ([] : List Task))), some (.row 1 (List.map (eS 1 vt) ([] : List (List Str))))]) (.cons .same (.cons .same (.cons .same (.cons .same .nil)))) (.same (.same .nil)) 2) sy))) ?_
 refine TriE.loopN h (fun (t : (List Task) × Str × Int × Int × Nat × (List Str) × (List (List Str)) × (List PartCount)) => match t with | (v8, v9, v10, v11, v12, v14, v15, v16) => St.mk [(5, eS 1 vt y1), (6, vi ((y1.length : Int) - 1)), (7, .own 0 0 v8.length), (8, vi v12)] [some (.row 6 (List.set (List.map eTask v8) (v8.length - 1) (.agg [vt v9, vi v10, vi v11, eS 1 vt v14, .own 1 0 v15.length, .own 2 0 v16.length]))), some (.row 1 (List.map (eS 1 vt) v15)), some (.row 2 (List.map ePartCount v16))]) rfl ?_
 clear h
 rintro back ⟨v8, v9, v10, v11, v12, v14, v15, v16⟩ h
 dsimp only [agrafferef08_Parse_L1] at h
 refine q1 ?_
 refine sk (.k4 (.i 22 (vb (decide ((v12 : Int) < ((y1.length : Int) - 1)))) .n)) ?_
 refine tc h (fun c3 h => ?_) (fun c3 h => ?_)
 ·refine q2 ?_
  refine q7 ?_
  refine sj ?_
  refine rk 3 (.k2 (.d (.k (.i 26 (.own 0 0 v8.length) (.i 27 (eS 1 vt y1) (.i 28 (vi v12) .n)))))) ?_
  refine cK h fun c4 h => ?_
  refine jo 29 (.iaddr 1 27 28) (ok_iaddr_m (j := v12) rfl rfl rfl c4) ?_
  refine jo 30 (.load false 1 29) (ok_load_fm (v := vt (ix y1 v12)) rfl c4 rfl) ?_
  refine bK h fun y17 hy17 h => ?_
  refine jco (.tup [.own 3 0 y17.2.1.length, vb y17.1]) 31 [26, 30] (agrafferef08_take_3_ok n v8 v9 v10 v11 v14 v15 v16 (ix y1 v12) y17 hy17) [0, 1, 2] rfl (.cons (row_ren_set eTask_frz rfl) (.same (row_ren (eS_frz 1 vt) _ _ _) (.same (row_ren ePartCount_frz _ _ _) .nil))) (.cons rfl (.cons rfl (.cons rfl (.cons (row_ren_set eTask_frz rfl) (.same (row_ren (eS_frz 1 vt) _ _ _) (.same (row_ren ePartCount_frz _ _ _) .nil)))))) rfl ?_
  refine jk 5 (.d3 (.k3 (.i 9 (.own 3 0 y17.2.1.length) (.i 10 (vb y17.1) .n)))) ?_
  refine q1 ?_
  refine sk (.k4 (.i 35 (vb (!y17.1)) .n)) ?_
  refine tc h (fun c5 h => ?_) (fun c5 h => ?_)
  ·refine sj ?_
   refine rk 1 (.i 36 (vi v12) .n) ?_
   refine cK h fun c6 h => ?_
   refine jo 37 (.bin .add false 36 (ki 1)) (r_addn (i := v12) (j := 1) rfl rfl c6) ?_
   refine jk 3 (.i 2 .emp (.i 3 (vi ((v12 + 1 : Nat) : Int)) (.i 4 (vi 7) .n))) ?_
   refine q3 ?_
   have h := si h
   subst h
   exact DoneS.ret (S' := ⟨[(2, eS 6 eTask ([] : List Task)), (3, vi ((v12 + 1 : Nat) : Int)), (4, vi 7)], []⟩) (Sees.trans (Sees.vco (fr' := [(2, eS 6 eTask ([] : List Task)), (3, vi ((v12 + 1 : Nat) : Int)), (4, vi 7)]) (.cons .sl (.cons .same (.cons .same .nil)))) (sc [] (by decide) (by kernel_rfl) ObRen.nil rfl rfl)) rfl rfl
  refine q2 ?_
  refine tk (.k3 (.i 7 (.own 3 0 y17.2.1.length) .n)) ?_
  refine q6 ?_
  refine rk 1 (.k2 (.d (.k (.i 23 (vi v12) .n)))) ?_
  refine cK h fun c7 h => ?_
  refine jo 24 (.bin .add false 23 (ki 1)) (r_addn (i := v12) (j := 1) rfl rfl c7) ?_
  refine jk 1 (.d (.k3 (.i 8 (vi ((v12 + 1 : Nat) : Int)) .n))) ?_
  exact Vs.intro (sc [3, 4, 5] (by decide) (by kernel_rfl) (obRen_set eTask_frz rfl rfl (obRen_row (eS_frz 1 vt) rfl (obRen_row ePartCount_frz rfl .nil))) rfl rfl) ⟨(y17.2.1, y17.2.2.1, y17.2.2.2.1, y17.2.2.2.2.1, v12 + 1, y17.2.2.2.2.2.1, y17.2.2.2.2.2.2.1, y17.2.2.2.2.2.2.2), rfl, h⟩
 refine q5 ?_
 exact Vs.intro sy ⟨(v8, v9, v10, v11, v14, v16, v15), rfl, h⟩
set_option maxHeartbeats 1000000 in
theorem agraffelaw08_RestoreTexts_ok (n : Nat) (a0 : List Task) (a1 : Str) (r : Bool) (h : agraffelaw08_RestoreTexts n a0 a1 = some r) : FnL Tryz.prog 5 [eS 6 eTask a0, vt a1] [] (vb r) [] := by
 dsimp only [agraffelaw08_RestoreTexts] at h
 refine fo [4] Tryz.call5 Tryz.func5 rfl ?_
 refine sk .a ?_
 refine q1 ?_
 refine sj ?_
 refine bK h fun y1 hy1 h => ?_
 refine jc 17 [] (agraffelaw08_awake_ok n y1 hy1) ?_
 refine jk 1 (.d (.k2 (.i 18 (vb (!y1)) .n))) ?_
 refine tc h (fun c1 h => ?_) (fun c1 h => ?_)
 ·refine sk (.i 4 (vb false) .n) ?_
  refine q3 ?_
  have h := si h
  subst h
  exact DoneS.ret Sees.refl rfl rfl
 refine q2 ?_
 refine q1 ?_
 refine sj ?_
 refine rk 1 (.k2 (.i 19 (eS 6 eTask a0) .n)) ?_
 refine bK h fun y2 hy2 h => ?_
 refine jc 20 [19] (agraffelaw08_Few_ok n a0 y2 hy2) ?_
 refine rk 2 (.d (.k2 (.i 22 (vb (!y2)) .n))) ?_
 refine gj (vt a1) 23 (.mov 1) 22 false rfl ?_
 refine gv 24 (.len 1 23) 22 false rfl (fun hg => (ok_len_t rfl)) (fun hg => (.cons hg .nil)) ?_
 refine gv 25 (.bin .gtr false 24 (ki 600)) 22 false rfl (fun hg => (n_gtr (i := a1.length) (j := 600) rfl rfl)) (fun hg => (.cons hg (.cons rfl .nil))) ?_
 refine gk (vb (decide (600 < a1.length))) 26 (.mov 25) 22 false rfl (fun hg => (.cons hg .nil)) ?_
 refine gj (vt a1) 27 (.mov 1) 26 true rfl ?_
 refine gv 28 (.len 1 27) 26 true rfl (fun hg => (ok_len_t rfl)) (fun hg => (.cons hg .nil)) ?_
 refine gv 29 (.bin .leq false 28 (ki 60000)) 26 true rfl (fun hg => (n_leq (i := a1.length) (j := 60000) rfl rfl)) (fun hg => (.cons hg (.cons rfl .nil))) ?_
 refine RegJ.op (Op1.andg (g := !(!y2)) (cy (IG 30 (.pick 26 29 (.c (.p (.bool false)))) 22 false)) rfl rfl rfl (fun hg => by first | exact hokA2 hg | exact hokA3 hg | exact hokA1 | exact hokA0 | (rw [hg]; simp) | simp_all)) ?_
 refine po 31 22 30 rfl rfl ?_
 refine rk 1 (.d4 (.d4 (.d (.k2 (.i 32 (vb ((!y2) || ((decide (600 < a1.length)) && (decide (a1.length ≤ 60000))))) .n))))) ?_
 refine gj (vt a1) 33 (.mov 1) 32 false rfl ?_
 refine gv 34 (.len 1 33) 32 false rfl (fun hg => (ok_len_t rfl)) (fun hg => (.cons hg .nil)) ?_
 refine gv 35 (.bin .gtr false 34 (ki 60100)) 32 false rfl (fun hg => (n_gtr (i := a1.length) (j := 60100) rfl rfl)) (fun hg => (.cons hg (.cons rfl .nil))) ?_
 refine po 36 32 35 rfl rfl ?_
 refine jf (.d4 (.k2 (.i 36 (vb (((!y2) || ((decide (600 < a1.length)) && (decide (a1.length ≤ 60000)))) || (decide (60100 < a1.length)))) .n))) ?_
 refine tc h (fun c2 h => ?_) (fun c2 h => ?_)
 ·refine sk (.i 4 (vb true) .n) ?_
  refine q3 ?_
  have h := si h
  subst h
  exact DoneS.ret Sees.refl rfl rfl
 refine q2 ?_
 refine sj ?_
 refine rk 1 (.k2 (.i 38 (eS 6 eTask a0) .n)) ?_
 refine bK h fun y3 hy3 h => ?_
 refine jc 39 [38] (agraffelaw08_Copied_ok n a0 y3 hy3) ?_
 refine bK h fun y4 hy4 h => ?_
 refine jc 40 [39] (restore_Print_ok n y3 y4 hy4) ?_
 refine jk 5 (.d2 (.k2 (.i 5 (vt y4.2) (.i 6 (vi y4.1) .n)))) ?_
 refine TriE.seqK h (fun (_ : Unit) => St.mk [(1, vt a1)] []) ?_ ?_
 ·rintro ⟨⟩ h
  refine sj ?_
  refine rk 1 (.k (.i 83 (vt a1) .n)) ?_
  refine bK h fun y9 hy9 h => ?_
  refine jc 84 [83] (restore_Parse_ok n a1 y9 hy9) ?_
  refine jk 7 (.d (.k (.i 11 (eS 6 eTask y9.2.2) (.i 12 (vi y9.1) (.i 13 (vi y9.2.1) .n))))) ?_
  refine sj ?_
  refine rk 1 (.d (.k3 (.i 89 (vt a1) .n))) ?_
  refine bK h fun y10 hy10 h => ?_
  refine jc 90 [89] (agrafferef08_Parse_ok n a1 y10 hy10) ?_
  refine jk 7 (.d (.k3 (.i 14 (eS 6 eTask y10.2.2) (.i 15 (vi y10.2.1) (.i 16 (vi y10.1) .n))))) ?_
  refine sj ?_
  refine rk 4 (.k2 (.d (.k2 (.i 97 (vb (y9.2.1 == y10.1)) .n)))) ?_
  refine gj (vi y9.1) 98 (.mov 12) 97 true rfl ?_
  refine gj (vi y10.2.1) 99 (.mov 15) 97 true rfl ?_
  refine gk (vb (y9.1 == y10.2.1)) 100 (.bin .eql false 98 99) 97 true rfl (fun hg => (.cons hg (.cons hg .nil))) ?_
  refine pa 101 97 100 rfl rfl ?_
  refine rk 1 (.d4 (.k (.d (.k (.i 102 (vb ((y9.2.1 == y10.1) && (y9.1 == y10.2.1))) .n))))) ?_
  refine gj (eS 6 eTask y9.2.2) 103 (.mov 11) 102 true rfl ?_
  refine gj (eS 6 eTask y10.2.2) 104 (.mov 14) 102 true rfl ?_
  refine bK h fun y11 hy11 h => ?_
  refine gc 105 [103, 104] 102 true rfl (fun hg => agraffelaw08_Same_ok n y9.2.2 y10.2.2 y11 (gcall_some hy11 hg)) (fun hg => (.cons rfl (.cons hg (.cons hg .nil)))) (fun hg => by kernel_rfl) ?_
  refine pa 106 102 105 rfl rfl ?_
  refine jk 1 (.i 4 (vb (((y9.2.1 == y10.1) && (y9.1 == y10.2.1)) && y11)) .n) ?_
  refine q3 ?_
  have h := si h
  subst h
  exact DoneS.ret Sees.refl rfl rfl
 intro k1 h
 refine sj ?_
 refine rk 1 (.k4 (.i 43 (eS 6 eTask a0) .n)) ?_
 refine bK h fun y5 hy5 h => ?_
 refine jc 44 [43] (agrafferef08_CheckTasks_ok n a0 y5 hy5) ?_
 refine jk 1 (.d (.k4 (.i 7 (vi y5) .n))) ?_
 refine sk (.k4 (.k (.i 46 (vb (y5 != (0 : Int))) .n))) ?_
 refine tc h (fun c3 h => ?_) (fun c3 h => ?_)
 ·refine sj ?_
  refine rk 4 (.d (.k2 (.i 50 (vb (y4.1 != y5)) .n))) ?_
  refine gj (vt y4.2) 51 (.mov 5) 50 false rfl ?_
  refine gk (vb (!(y4.2 == ([] : Str)))) 52 (.bin .neq false 51 (.c (.p (.string ⟨#[]⟩)))) 50 false rfl (fun hg => (.cons hg (.cons rfl .nil))) ?_
  refine po 53 50 52 rfl rfl ?_
  refine jf (.d3 (.k (.i 53 (vb ((y4.1 != y5) || (!(y4.2 == ([] : Str))))) .n))) ?_
  refine tc h (fun c4 h => ?_) (fun c4 h => ?_)
  ·refine sk (.i 4 (vb false) .n) ?_
   refine q3 ?_
   have h := si h
   subst h
   exact DoneS.ret Sees.refl rfl rfl
  refine q2 ?_
  exact Vs.intro sy ⟨(), rfl, h⟩
 refine sj ?_
 refine rk 1 (.k4 (.i 55 (vt y4.2) .n)) ?_
 refine bK h fun y6 hy6 h => ?_
 refine jc 56 [55] (restore_Parse_ok n y4.2 y6 hy6) ?_
 refine jk 7 (.d (.k4 (.i 8 (eS 6 eTask y6.2.2) (.i 9 (vi y6.1) (.i 10 (vi y6.2.1) .n))))) ?_
 refine sj ?_
 refine rk 3 (.k3 (.d (.k3 (.i 62 (vb (y4.1 != (0 : Int))) .n)))) ?_
 refine gj (vt y4.2) 63 (.mov 5) 62 false rfl ?_
 refine gj (eS 6 eTask a0) 64 (.mov 0) 62 false rfl ?_
 refine bK h fun y7 hy7 h => ?_
 refine gc 65 [64] 62 false rfl (fun hg => agrafferef08_Print_ok n a0 y7 (gcall_some hy7 hg)) (fun hg => (.cons rfl (.cons hg .nil))) (fun hg => by kernel_rfl) ?_
 refine gk (vb (!(y4.2 == y7))) 66 (.bin .neq false 63 65) 62 false rfl (fun hg => (.cons hg (.cons hg .nil))) ?_
 refine po 67 62 66 rfl rfl ?_
 refine rk 1 (.d4 (.d (.k2 (.d (.k3 (.i 68 (vb ((y4.1 != (0 : Int)) || (!(y4.2 == y7)))) .n)))))) ?_
 refine gj (vi y6.2.1) 69 (.mov 10) 68 false rfl ?_
 refine gk (vb (y6.2.1 != (0 : Int))) 70 (.bin .neq false 69 (ki 0)) 68 false rfl (fun hg => (.cons hg (.cons rfl .nil))) ?_
 refine po 71 68 70 rfl rfl ?_
 refine rk 1 (.d3 (.k4 (.i 72 (vb (((y4.1 != (0 : Int)) || (!(y4.2 == y7))) || (y6.2.1 != (0 : Int)))) .n))) ?_
 refine gj (vi y6.1) 73 (.mov 9) 72 false rfl ?_
 refine gk (vb (y6.1 != (0 : Int))) 74 (.bin .neq false 73 (ki 0)) 72 false rfl (fun hg => (.cons hg (.cons rfl .nil))) ?_
 refine po 75 72 74 rfl rfl ?_
 refine rk 1 (.d3 (.k3 (.i 76 (vb ((((y4.1 != (0 : Int)) || (!(y4.2 == y7))) || (y6.2.1 != (0 : Int))) || (y6.1 != (0 : Int)))) .n))) ?_
 refine gj (eS 6 eTask y6.2.2) 77 (.mov 8) 76 false rfl ?_
 refine gj (eS 6 eTask a0) 78 (.mov 0) 76 false rfl ?_
 refine bK h fun y8 hy8 h => ?_
 refine gc 79 [77, 78] 76 false rfl (fun hg => agraffelaw08_Same_ok n y6.2.2 a0 y8 (gcall_some hy8 hg)) (fun hg => (.cons rfl (.cons hg (.cons hg .nil)))) (fun hg => by kernel_rfl) ?_
 refine gk (vb (!y8)) 80 (.un .not 79) 76 false rfl (fun hg => (.cons hg .nil)) ?_
 refine po 81 76 80 rfl rfl ?_
 refine jf (.d4 (.d2 (.k (.i 81 (vb (((((y4.1 != (0 : Int)) || (!(y4.2 == y7))) || (y6.2.1 != (0 : Int))) || (y6.1 != (0 : Int))) || (!y8))) .n)))) ?_
 refine tc h (fun c5 h => ?_) (fun c5 h => ?_)
 ·refine sk (.i 4 (vb false) .n) ?_
  refine q3 ?_
  have h := si h
  subst h
  exact DoneS.ret Sees.refl rfl rfl
 refine q2 ?_
 exact Vs.intro sy ⟨(), rfl, h⟩
section
open Go Go.ChangeShapes Go.WideShapes Go.ChangeAt Go.RowKit
theorem var_heap {P : Program} {W : World} {n : String} {g : Nat} {cs : Array Value} (hg : P.globalNamed n = some g) (h : W.var? P n = some cs) : ∃ T z, W.heap[g]? = some (.cells cs T z) := by
  unfold World.var? at h
  rw [hg, Option.bind_some] at h
  split at h
  · rename_i cs' T z e
    cases h
    exact ⟨T, z, e⟩
  · cases h
theorem cell_heap {W : World} {g : Nat} {v : Value} (h : W.cell? ⟨g, 0, none⟩ = some v) : ∃ cs T z, W.heap[g]? = some (.cells cs T z) ∧ cs[0]? = some v := by
  unfold World.cell? at h
  split at h
  · rename_i cs T z e
    simp only at h
    exact ⟨cs, T, z, e, by simpa using h⟩
  · cases h
theorem heap_lt {W : World} {g : Nat} {o : Obj} (h : W.heap[g]? = some o) : g < W.heap.size := by
  rcases Nat.lt_or_ge g W.heap.size with h' | h'
  · exact h'
  · rw [Array.getElem?_eq_none h'] at h; cases h
section
variable {H : Type} {enc : TypeId × Value → H} {P : Program} {w : World} {base : Nat} {spare : Nat → Bool} {held : Bool} {fuel : Nat} {t : TypeId} {cs : List Value} {x : DataW H × List MemPlace}
theorem iface_of_trod {ms : Array (String × TypeId)} (ht : P.underlying t = some (.interface ms)) (h : DataW.trod enc P w base spare held fuel t cs = some x) :
    ∃ ev, cs = [ev] ∧ (ev = .nilIface ∨ ∃ te pe, ev = .iface te pe) := by
  cases fuel with
  | zero => simp [DataW.trod] at h
  | succ m =>
    unfold DataW.trod at h
    rw [ht] at h
    split at h <;> simp_all
end
theorem returns_laid {H : Type} {enc : TypeId × Value → H} {a : Assume} {C : Checked} {os : Os} {f : FuncId} {fn : Func} {s : ChangeSpec} {conds : List PathCond} {apart fresh handsOn again : Bool} {X : World → Array Value → Prop}
    (hX : ∀ (w w' : World) (args : Array Value), w.heap = w'.heap → X w args → X w' args)
    (own : ownKnob C.prog.godebug = none) (started : os.Started) (noInit : C.prog.inits.idxOf? f = none) (hfn : C.prog.funcs[f]? = some fn)
    (witness : ∃ (w : World) (tape : Tape) (i : Input), w.os = os ∧ (w.forCall tape i).Shaped C.prog ∧ i.vars = [] ∧ Input.okWide C.prog (w.forCall tape i) .any w.heap.size f i ∧
      ((s.pre enc C.prog fn conds apart (w.forCall tape i).memory i.args ∧ X (w.forCall tape i).memory i.args) ∧ sizedMet enc C.prog fn (OpenSpec.ofChange s) apart (w.forCall tape i).memory i.args) ∧ a.holds C.prog (lone (Frame.enter C.prog f i.args .normal) [] (w.forCall tape i)))
    (contract : ∀ (W : World) (base : Nat) (args : Array Value) (ds gs : List (DataW H)) (before : List MemPlace),
      (∀ (j : Nat) t v, fn.params[j]? = some t → args[j]? = some v → Value.okWide C.prog W .any base t v) →
      DataW.Whole enc C.prog fn.params.toList s.vars apart W args.toList ds gs before → W.ShapedOpen C.prog → X W args →
      Calls C.prog f args W fun e W' => ∃ v, e = .returned v ∧ s.post enc C.prog fn apart fresh handsOn again W args v W') :
    ReturnsInHanded a C os f .any (fun w args => (s.pre enc C.prog fn conds apart w args ∧ X w args) ∧ sizedMet enc C.prog fn (OpenSpec.ofChange s) apart w args) (s.post enc C.prog fn apart fresh handsOn again) := by
  refine returnsInHanded_of_calls own started noInit witness fun w tape i _ hs _ hok hpre hholds => ?_
  obtain ⟨_, _, _, fn2, hf2, _, _, _, _, hval⟩ := hok
  obtain rfl : fn2 = fn := Option.some.inj (hf2.symm.trans hfn)
  obtain ⟨⟨⟨ds, gs, before, hw, _⟩, hx⟩, _⟩ := hpre
  refine (contract (w.forCall tape i) w.heap.size i.args ds gs before hval (DataW.Whole.of_heap (w' := w.forCall tape i) (by rfl) hw) hs (hX _ _ _ (by rfl) hx)).mono ?_
  rintro e W2 ⟨v, rfl, hp⟩
  exact ChangeSpec.post_blind hp
end
end Go.Proofs.YtchkkpbkgghcoaaGreatDoor.As
