/- The code computes what the plain functions say, part 2: no condition. -/
import Derived.Test.YtpmkdgnhllhaeaaWalk1
namespace Go.Proofs.Ytpmkdgnhllhaeaa.As
open Go Go.Proofs
set_option maxRecDepth 4000
set_option maxHeartbeats 1000000 in
theorem diary_plan_accept_4_ok (n : Nat) (a0 : List Str) (a1 : List Str) (a2 : List Road) (a3 : List Grand) (a4 : Int) (a5 : Int) (a6 : List (Int × List (Arr2_Str × Int))) (a7 : List Item) (r : Int × Int × (List (Int × List (Arr2_Str × Int)))) (h : diary_plan_accept_4 n a0 a1 a2 a3 a4 a5 a6 a7 = some r) : FnL Try.prog 73 [.ptr 0 0 0, .own 2 0 a7.length] [some (.row 7 [.agg [eS 1 vt a0, eS 1 vt a1, eS 4 eRoad a2, eS 3 eGrand a3, vi a4, vi a5, .map 1]]), some (.mp (mpE vi (eM eArr2_Str vi) a6)), some (.row 7 (List.map eItem a7))] (.tup [vi r.1, vi r.2.1]) [some (.row 7 [.agg [eS 1 vt a0, eS 1 vt a1, eS 4 eRoad a2, eS 3 eGrand a3, vi a4, vi a5, .map 1]]), some (.mp (mpE vi (eM eArr2_Str vi) r.2.2)), some (.row 7 (List.map eItem a7))] := by
 dsimp only [diary_plan_accept_4] at h
 refine fob [4, 5] Try.call73 Try.func73 rfl (.cons rfl (.cons rfl (.cons rfl .nil))) ?_
 refine sk .a ?_
 refine q1 ?_
 refine sj ?_
 refine rk 2 (.k2 (.i 13 (vi (a7.length : Int)) .n)) ?_
 refine jo 14 (.bin .gtr false 13 (ki 100)) (n_gtr (i := a7.length) (j := 100) rfl rfl) ?_
 refine jf (.d (.k2 (.i 14 (vb (decide (100 < a7.length))) .n))) ?_
 refine tc h (fun c1 h => ?_) (fun c1 h => ?_)
 ·refine sk (.i 4 (vi 0) (.i 5 (vi 8) .n)) ?_
  refine q3 ?_
  have h := si h
  subst h
  exact DoneS.ret Sees.refl rfl rfl
 refine q2 ?_
 refine TriE.seqK h (fun (v13 : (List (Int × List (Arr2_Str × Int)))) => St.mk [] [some (.row 7 [.agg [eS 1 vt a0, eS 1 vt a1, eS 4 eRoad a2, eS 3 eGrand a3, vi a4, vi a5, .map 1]]), some (.mp (mpE vi (eM eArr2_Str vi) v13)), some (.row 7 (List.map eItem a7))]) ?_ ?_
 ·rintro v13 h
  refine sk (.i 4 (vi (-1)) (.i 5 (vi 0) .n)) ?_
  refine q3 ?_
  have h := si h
  subst h
  exact DoneS.ret Sees.refl rfl rfl
 intro k1 h
 refine sk (.k2 (.i 15 (.own 2 0 a7.length) (.i 16 (vi (a7.length : Int)) (.i 17 (vi 0) .n)))) ?_
 refine q4 ?_
 refine TriE.loopN h (fun (t : Int × (List (Int × List (Arr2_Str × Int)))) => match t with | (v6, v7) => St.mk [(0, .ptr 0 0 0), (1, .own 2 0 a7.length), (15, .own 2 0 a7.length), (16, vi (a7.length : Int)), (17, vi v6)] [some (.row 7 [.agg [eS 1 vt a0, eS 1 vt a1, eS 4 eRoad a2, eS 3 eGrand a3, vi a4, vi a5, .map 1]]), some (.mp (mpE vi (eM eArr2_Str vi) v7)), some (.row 7 (List.map eItem a7))]) rfl ?_
 clear h
 rintro back ⟨v6, v7⟩ h
 dsimp only [diary_plan_accept_4_L1] at h
 refine sk (.k4 (.k (.i 18 (vb (decide (v6 < (a7.length : Int)))) .n))) ?_
 refine q1 ?_
 refine tc h (fun c2 h => ?_) (fun c2 h => ?_)
 ·refine q2 ?_
  refine q7 ?_
  refine sj ?_
  refine rk 1 (.k4 (.k (.i 19 (vi v6) .n))) ?_
  refine cK h fun c3 h => ?_
  refine jo 20 (.iaddr 7 15 17) (ok_iaddr_o0 (j := v6.toNat) rfl rfl rfl (inB_to c3) (inB_lt c3)) ?_
  refine cK h fun c4 h => ?_
  refine jo 21 (.load true 7 20) (ok_load_pm (l := a7) (e := eItem) (v := .agg [vi ((ix a7 v6.toNat).Kind), vi ((ix a7 v6.toNat).From), vi ((ix a7 v6.toNat).To), vt ((ix a7 v6.toNat).Grand), vt ((ix a7 v6.toNat).Place), vt ((ix a7 v6.toNat).Who), vi ((ix a7 v6.toNat).Deposit)]) rfl rfl c4 rfl) ?_
  refine jko 3 (.d2 (.k4 (.k (.i 7 (.ptr 3 0 0) (.i 6 (vi v6) .n))))) [some (.row 7 [.agg [eS 1 vt a0, eS 1 vt a1, eS 4 eRoad a2, eS 3 eGrand a3, vi a4, vi a5, .map 1]]), some (.mp (mpE vi (eM eArr2_Str vi) v7)), some (.row 7 (List.map eItem a7)), some (.row 7 [.agg [vi ((ix a7 v6.toNat).Kind), vi ((ix a7 v6.toNat).From), vi ((ix a7 v6.toNat).To), vt ((ix a7 v6.toNat).Grand), vt ((ix a7 v6.toNat).Place), vt ((ix a7 v6.toNat).Who), vi ((ix a7 v6.toNat).Deposit)]])] ?_
  refine q1 ?_
  refine q1 ?_
  refine ts .a ?_
  refine TriE.draw (by kernel_rfl) ?_
  refine dk 5 (.i 26 (.agg [vi ((ix a7 v6.toNat).Kind), vi ((ix a7 v6.toNat).From), vi ((ix a7 v6.toNat).To), vt ((ix a7 v6.toNat).Grand), vt ((ix a7 v6.toNat).Place), vt ((ix a7 v6.toNat).Who), vi ((ix a7 v6.toNat).Deposit)]) (.i 25 (.agg [eS 1 vt a0, eS 1 vt a1, eS 4 eRoad a2, eS 3 eGrand a3, vi a4, vi a5]) (.i 24 (.ptr 0 0 0) (.i 23 (.ptr 0 0 0) (.i 22 (.ptr 0 0 0) .a))))) ?_
  refine bK h fun y8 hy8 h => ?_
  refine dc (vi y8) 0 27 [25, 26] (diary_checkItem_ok n (Diary.mk a0 a1 a2 a3 a4 a5) (ix a7 v6.toNat) y8 hy8) [] rfl ObsRen.nil ObsRen.nil rfl (.inr ⟨rfl, rfl⟩) ?_
  refine dk 1 (.i 8 (vi y8) .a) ?_
  refine dfi (ob' := [some (.row 7 [.agg [eS 1 vt a0, eS 1 vt a1, eS 4 eRoad a2, eS 3 eGrand a3, vi a4, vi a5, .map 1]]), some (.mp (mpE vi (eM eArr2_Str vi) v7)), some (.row 7 (List.map eItem a7)), some (.row 7 [.agg [vi ((ix a7 v6.toNat).Kind), vi ((ix a7 v6.toNat).From), vi ((ix a7 v6.toNat).To), vt ((ix a7 v6.toNat).Grand), vt ((ix a7 v6.toNat).Place), vt ((ix a7 v6.toNat).Who), vi ((ix a7 v6.toNat).Deposit)]])]) (.d4 (.d3 (.k4 (.k3 (.i 8 (vi y8) .n))))) [0, 1, 2, 3] (.cons rfl (obRen_mp vi_frz (eM_frz eArr2_Str vi) rfl (obRen_row eItem_frz rfl (.cons rfl .nil)))) ?_
  refine sk (.k4 (.k4 (.i 29 (vb (y8 != (0 : Int))) .n))) ?_
  refine tc h (fun c5 h => ?_) (fun c5 h => ?_)
  ·refine sk (.i 4 (vi v6) (.i 5 (vi y8) .n)) ?_
   refine q3 ?_
   have h := si h
   subst h
   exact DoneS.ret (S' := ⟨[(4, vi v6), (5, vi y8)], [some (.row 7 [.agg [eS 1 vt a0, eS 1 vt a1, eS 4 eRoad a2, eS 3 eGrand a3, vi a4, vi a5, .map 1]]), some (.mp (mpE vi (eM eArr2_Str vi) v7)), some (.row 7 (List.map eItem a7))]⟩) (sc [0, 1, 2] (by decide) (by kernel_rfl) (.cons rfl (obRen_mp vi_frz (eM_frz eArr2_Str vi) rfl (obRen_row eItem_frz rfl .nil))) rfl rfl) rfl rfl
  refine q2 ?_
  refine q1 ?_
  refine q1 ?_
  refine ts (.k4 (.k3 .n)) ?_
  refine TriE.draw (by kernel_rfl) ?_
  refine dk 3 (.i 34 (vb (decide ((0 : Int) < v6))) (.i 33 (vb (decide ((0 : Int) < v6))) (.i 32 (vi v6) .a))) ?_
  refine gd (decide ((0 : Int) < v6)) (.ptr 3 0 1) 35 (.faddr 1 7) 34 true rfl (fun hg => (.cons rfl .nil)) ?_
  refine gd (decide ((0 : Int) < v6)) (vi ((ix a7 v6.toNat).From)) 36 (.load false 1 35) 34 true rfl (fun hg => (.cons hg .nil)) ?_
  refine gd (decide ((0 : Int) < v6)) (.own 2 0 a7.length) 37 (.mov 1) 34 true rfl (fun hg => (.cons rfl .nil)) ?_
  refine gd (decide ((0 : Int) < v6)) (vi v6) 38 (.mov 6) 34 true rfl (fun hg => (.cons rfl .nil)) ?_
  refine cK h fun c6 h => ?_
  refine gu (decide ((0 : Int) < v6)) 39 (.bin .sub false 38 (ki 1)) 34 true rfl (fun hg => (r_sub rfl rfl (gor c6 hg))) (fun hg => (.cons hg (.cons rfl .nil))) ?_
  refine cK h fun c7 h => ?_
  refine gu (decide ((0 : Int) < v6)) 40 (.iaddr 7 37 39) 34 true rfl (fun hg => (ok_iaddr_o0 (j := (v6 - 1).toNat) rfl rfl rfl (inB_to (gor c7 hg)) (inB_lt (gor c7 hg)))) (fun hg => (.cons hg (.cons hg .nil))) ?_
  refine gd (decide ((0 : Int) < v6)) (.ptr 2 ((v6 - 1).toNat) 1) 41 (.faddr 1 40) 34 true rfl (fun hg => (.cons hg .nil)) ?_
  refine cK h fun c8 h => ?_
  refine gu (decide ((0 : Int) < v6)) 42 (.load false 1 41) 34 true rfl (fun hg => (ok_load_pm (l := a7) (e := eItem) (v := vi ((ix a7 ((v6 - 1).toNat)).From)) rfl rfl (gor c8 hg) rfl)) (fun hg => (.cons hg .nil)) ?_
  refine gd (decide ((0 : Int) < v6)) (vb (decide (((ix a7 v6.toNat).From) < ((ix a7 ((v6 - 1).toNat)).From)))) 43 (.bin .lss false 36 42) 34 true rfl (fun hg => (.cons hg (.cons hg .nil))) ?_
  refine RegD.op (OpD.and (cy (I0 44 (.pick 34 43 (.c (.p (.bool false)))))) rfl rfl (by first | exact hokA1 | exact hokA0 | simp)) ?_
  refine dfi (ob' := [some (.row 7 [.agg [eS 1 vt a0, eS 1 vt a1, eS 4 eRoad a2, eS 3 eGrand a3, vi a4, vi a5, .map 1]]), some (.mp (mpE vi (eM eArr2_Str vi) v7)), some (.row 7 (List.map eItem a7)), some (.row 7 [.agg [vi ((ix a7 v6.toNat).Kind), vi ((ix a7 v6.toNat).From), vi ((ix a7 v6.toNat).To), vt ((ix a7 v6.toNat).Grand), vt ((ix a7 v6.toNat).Place), vt ((ix a7 v6.toNat).Who), vi ((ix a7 v6.toNat).Deposit)]])]) (.d4 (.d4 (.d4 (.d (.k4 (.k3 (.i 44 (vb ((decide ((0 : Int) < v6)) && (decide (((ix a7 v6.toNat).From) < ((ix a7 ((v6 - 1).toNat)).From))))) .n))))))) [0, 1, 2, 3] (.cons rfl (obRen_mp vi_frz (eM_frz eArr2_Str vi) rfl (obRen_row eItem_frz rfl (.cons rfl .nil)))) ?_
  refine tc h (fun c9 h => ?_) (fun c9 h => ?_)
  ·refine sk (.i 4 (vi v6) (.i 5 (vi 9) .n)) ?_
   refine q3 ?_
   have h := si h
   subst h
   exact DoneS.ret (S' := ⟨[(4, vi v6), (5, vi 9)], [some (.row 7 [.agg [eS 1 vt a0, eS 1 vt a1, eS 4 eRoad a2, eS 3 eGrand a3, vi a4, vi a5, .map 1]]), some (.mp (mpE vi (eM eArr2_Str vi) v7)), some (.row 7 (List.map eItem a7))]⟩) (sc [0, 1, 2] (by decide) (by kernel_rfl) (.cons rfl (obRen_mp vi_frz (eM_frz eArr2_Str vi) rfl (obRen_row eItem_frz rfl .nil))) rfl rfl) rfl rfl
  refine q2 ?_
  refine sk (.k4 (.k3 (.i 54 (.agg [.fn (.func 107) [.ptr 0 0 0] [], .fn (.func 108) [.ptr 0 0 0] [], .fn (.func 109) [.ptr 0 0 0] [], .fn (.func 110) [.ptr 0 0 0] []]) (.i 55 (vi 0) .n)))) ?_
  refine q4 ?_
  refine TriE.rnd 5 ?_
  refine RndE.seq ?_
  refine sk (.k4 (.k4 (.k (.i 56 (vb true) .n)))) ?_
  refine q1 ?_
  refine TriE.cond (b := true) rfl (fun c10 => ?_) (fun c10 => ?_)
  rotate_left
  ·cases c10
  refine q2 ?_
  refine q7 ?_
  refine sk (.k4 (.k4 (.k (.i 10 (.fn (.func 107) [.ptr 0 0 0] []) .n)))) ?_
  refine q1 ?_
  refine ts .a ?_
  refine TriE.draw (by kernel_rfl) ?_
  refine dk 3 (.i 60 (vi v6) (.i 59 (.own 2 0 a7.length) (.i 58 (.fn (.func 107) [.ptr 0 0 0] []) .a))) ?_
  refine cK h fun c11 h => ?_
  refine dp 61 (.slc 7 59 none (some 60) none) (ok_slco_hi (j := v6.toNat) rfl rfl rfl (inC_to c11) (inC_le c11)) ?_
  refine dk 1 (.i 62 (.agg [vi ((ix a7 v6.toNat).Kind), vi ((ix a7 v6.toNat).From), vi ((ix a7 v6.toNat).To), vt ((ix a7 v6.toNat).Grand), vt ((ix a7 v6.toNat).Place), vt ((ix a7 v6.toNat).Who), vi ((ix a7 v6.toNat).Deposit)]) .a) ?_
  refine bK h fun y9 hy9 h => ?_
  refine RegD.op (OpD.dyn (y' := vi y9) (obx := [some (.row 7 [.agg [eS 1 vt a0, eS 1 vt a1, eS 4 eRoad a2, eS 3 eGrand a3, vi a4, vi a5, .map 1]]), some (.mp (mpE vi (eM eArr2_Str vi) v7)), some (.row 7 (List.map eItem a7))]) (oby := [some (.row 7 [.agg [eS 1 vt a0, eS 1 vt a1, eS 4 eRoad a2, eS 3 eGrand a3, vi a4, vi a5, .map 1]]), some (.mp (mpE vi (eM eArr2_Str vi) v7)), some (.row 7 (List.map eItem a7))]) (ob2 := [some (.row 7 [.agg [eS 1 vt a0, eS 1 vt a1, eS 4 eRoad a2, eS 3 eGrand a3, vi a4, vi a5, .map 1]]), some (.mp (mpE vi (eM eArr2_Str vi) v7)), some (.row 7 (List.map eItem a7)), some (.row 7 [.agg [vi ((ix a7 v6.toNat).Kind), vi ((ix a7 v6.toNat).From), vi ((ix a7 v6.toNat).To), vt ((ix a7 v6.toNat).Grand), vt ((ix a7 v6.toNat).Place), vt ((ix a7 v6.toNat).Who), vi ((ix a7 v6.toNat).Deposit)]]), none, none, none, none, none, none]) (tch := []) 0 _ _ _ (cy (I0 63 (.dyn 58 [61, 62]))) rfl (diary_plan_changes_2_ok n a0 a1 a2 a3 a4 a5 v7 a7 0 v6.toNat (ix a7 v6.toNat) y9 hy9) [0, 1, 2] (by kernel_rfl) (.cons rfl (.cons rfl (.cons rfl .nil))) (by kernel_rfl) (by kernel_rfl) (.cons rfl (.same (mp_ren vi_frz (eM_frz eArr2_Str vi) _ _) (.same (row_ren eItem_frz _ _ _) .nil))) (by kernel_rfl) (.cons rfl (.same (mp_ren vi_frz (eM_frz eArr2_Str vi) _ _) (.same (row_ren eItem_frz _ _ _) .nil))) (by kernel_rfl) rfl (.inr ⟨rfl, rfl⟩)) ?_
  refine dk 1 (.i 11 (vi y9) .a) ?_
  refine dfi (ob' := [some (.row 7 [.agg [eS 1 vt a0, eS 1 vt a1, eS 4 eRoad a2, eS 3 eGrand a3, vi a4, vi a5, .map 1]]), some (.mp (mpE vi (eM eArr2_Str vi) v7)), some (.row 7 (List.map eItem a7)), some (.row 7 [.agg [vi ((ix a7 v6.toNat).Kind), vi ((ix a7 v6.toNat).From), vi ((ix a7 v6.toNat).To), vt ((ix a7 v6.toNat).Grand), vt ((ix a7 v6.toNat).Place), vt ((ix a7 v6.toNat).Who), vi ((ix a7 v6.toNat).Deposit)]])]) (.d4 (.d3 (.k4 (.k4 (.k (.i 11 (vi y9) .n)))))) [0, 1, 2, 3] (.cons rfl (obRen_mp vi_frz (eM_frz eArr2_Str vi) rfl (obRen_row eItem_frz rfl (.cons rfl .nil)))) ?_
  refine sk (.k4 (.k4 (.k2 (.i 65 (vb (y9 != (0 : Int))) .n)))) ?_
  refine tc h (fun c12 h => ?_) (fun c12 h => ?_)
  ·refine sk (.i 4 (vi v6) (.i 5 (vi y9) .n)) ?_
   refine q3 ?_
   have h := si h
   subst h
   exact DoneS.ret (S' := ⟨[(4, vi v6), (5, vi y9)], [some (.row 7 [.agg [eS 1 vt a0, eS 1 vt a1, eS 4 eRoad a2, eS 3 eGrand a3, vi a4, vi a5, .map 1]]), some (.mp (mpE vi (eM eArr2_Str vi) v7)), some (.row 7 (List.map eItem a7))]⟩) (sc [0, 1, 2] (by decide) (by kernel_rfl) (.cons rfl (obRen_mp vi_frz (eM_frz eArr2_Str vi) rfl (obRen_row eItem_frz rfl .nil))) rfl rfl) rfl rfl
  refine q2 ?_
  refine q6 ?_
  refine jo 68 (.bin .add false 55 (ki 1)) (r_addn (i := 0) (j := 1) rfl rfl rfl) ?_
  refine jk 1 (.d (.k4 (.k4 (.i 55 (vi 1) .n)))) ?_
  refine RndE.seq ?_
  refine sk (.k4 (.k4 (.k (.i 56 (vb true) .n)))) ?_
  refine q1 ?_
  refine TriE.cond (b := true) rfl (fun c13 => ?_) (fun c13 => ?_)
  rotate_left
  ·cases c13
  refine q2 ?_
  refine q7 ?_
  refine sk (.k4 (.k4 (.k (.i 10 (.fn (.func 108) [.ptr 0 0 0] []) .n)))) ?_
  refine q1 ?_
  refine ts .a ?_
  refine TriE.draw (by kernel_rfl) ?_
  refine dk 3 (.i 60 (vi v6) (.i 59 (.own 2 0 a7.length) (.i 58 (.fn (.func 108) [.ptr 0 0 0] []) .a))) ?_
  refine dp 61 (.slc 7 59 none (some 60) none) (ok_slco_hi (j := v6.toNat) rfl rfl rfl (inC_to c11) (inC_le c11)) ?_
  refine dk 1 (.i 62 (.agg [vi ((ix a7 v6.toNat).Kind), vi ((ix a7 v6.toNat).From), vi ((ix a7 v6.toNat).To), vt ((ix a7 v6.toNat).Grand), vt ((ix a7 v6.toNat).Place), vt ((ix a7 v6.toNat).Who), vi ((ix a7 v6.toNat).Deposit)]) .a) ?_
  refine bK h fun y10 hy10 h => ?_
  refine RegD.op (OpD.dyn (y' := vi y10.1) (obx := [some (.row 7 [.agg [eS 1 vt a0, eS 1 vt a1, eS 4 eRoad a2, eS 3 eGrand a3, vi a4, vi a5, .map 1]]), some (.mp (mpE vi (eM eArr2_Str vi) v7)), some (.row 7 (List.map eItem a7))]) (oby := [some (.row 7 [.agg [eS 1 vt a0, eS 1 vt a1, eS 4 eRoad a2, eS 3 eGrand a3, vi a4, vi a5, .map 1]]), some (.mp (mpE vi (eM eArr2_Str vi) y10.2)), some (.row 7 (List.map eItem a7))]) (ob2 := [some (.row 7 [.agg [eS 1 vt a0, eS 1 vt a1, eS 4 eRoad a2, eS 3 eGrand a3, vi a4, vi a5, .map 1]]), some (.mp (mpE vi (eM eArr2_Str vi) y10.2)), some (.row 7 (List.map eItem a7)), some (.row 7 [.agg [vi ((ix a7 v6.toNat).Kind), vi ((ix a7 v6.toNat).From), vi ((ix a7 v6.toNat).To), vt ((ix a7 v6.toNat).Grand), vt ((ix a7 v6.toNat).Place), vt ((ix a7 v6.toNat).Who), vi ((ix a7 v6.toNat).Deposit)]]), none, none, none, none, none, none]) (tch := [0, 1, 2]) 0 _ _ _ (cy (I0 63 (.dyn 58 [61, 62]))) rfl (diary_plan_stands_2_ok n a0 a1 a2 a3 a4 a5 v7 a7 0 v6.toNat (ix a7 v6.toNat) y10 hy10) [0, 1, 2] (by kernel_rfl) (.cons rfl (.cons rfl (.cons rfl .nil))) (by kernel_rfl) (by kernel_rfl) (.cons rfl (.same (mp_ren vi_frz (eM_frz eArr2_Str vi) _ _) (.same (row_ren eItem_frz _ _ _) .nil))) (by kernel_rfl) (.cons rfl (.same (mp_ren vi_frz (eM_frz eArr2_Str vi) _ _) (.same (row_ren eItem_frz _ _ _) .nil))) (by kernel_rfl) rfl (.inl rfl)) ?_
  refine dk 1 (.i 11 (vi y10.1) .a) ?_
  refine dfi (ob' := [some (.row 7 [.agg [eS 1 vt a0, eS 1 vt a1, eS 4 eRoad a2, eS 3 eGrand a3, vi a4, vi a5, .map 1]]), some (.mp (mpE vi (eM eArr2_Str vi) y10.2)), some (.row 7 (List.map eItem a7)), some (.row 7 [.agg [vi ((ix a7 v6.toNat).Kind), vi ((ix a7 v6.toNat).From), vi ((ix a7 v6.toNat).To), vt ((ix a7 v6.toNat).Grand), vt ((ix a7 v6.toNat).Place), vt ((ix a7 v6.toNat).Who), vi ((ix a7 v6.toNat).Deposit)]])]) (.d4 (.d3 (.k4 (.k4 (.k (.i 11 (vi y10.1) .n)))))) [0, 1, 2, 3] (.cons rfl (obRen_mp vi_frz (eM_frz eArr2_Str vi) rfl (obRen_row eItem_frz rfl (.cons rfl .nil)))) ?_
  refine sk (.k4 (.k4 (.k2 (.i 65 (vb (y10.1 != (0 : Int))) .n)))) ?_
  refine tc h (fun c14 h => ?_) (fun c14 h => ?_)
  ·refine sk (.i 4 (vi v6) (.i 5 (vi y10.1) .n)) ?_
   refine q3 ?_
   have h := si h
   subst h
   exact DoneS.ret (S' := ⟨[(4, vi v6), (5, vi y10.1)], [some (.row 7 [.agg [eS 1 vt a0, eS 1 vt a1, eS 4 eRoad a2, eS 3 eGrand a3, vi a4, vi a5, .map 1]]), some (.mp (mpE vi (eM eArr2_Str vi) y10.2)), some (.row 7 (List.map eItem a7))]⟩) (sc [0, 1, 2] (by decide) (by kernel_rfl) (.cons rfl (obRen_mp vi_frz (eM_frz eArr2_Str vi) rfl (obRen_row eItem_frz rfl .nil))) rfl rfl) rfl rfl
  refine q2 ?_
  refine q6 ?_
  refine jo 68 (.bin .add false 55 (ki 1)) (r_addn (i := 1) (j := 1) rfl rfl rfl) ?_
  refine jk 1 (.d (.k4 (.k4 (.i 55 (vi 2) .n)))) ?_
  refine RndE.seq ?_
  refine sk (.k4 (.k4 (.k (.i 56 (vb true) .n)))) ?_
  refine q1 ?_
  refine TriE.cond (b := true) rfl (fun c15 => ?_) (fun c15 => ?_)
  rotate_left
  ·cases c15
  refine q2 ?_
  refine q7 ?_
  refine sk (.k4 (.k4 (.k (.i 10 (.fn (.func 109) [.ptr 0 0 0] []) .n)))) ?_
  refine q1 ?_
  refine ts .a ?_
  refine TriE.draw (by kernel_rfl) ?_
  refine dk 3 (.i 60 (vi v6) (.i 59 (.own 2 0 a7.length) (.i 58 (.fn (.func 109) [.ptr 0 0 0] []) .a))) ?_
  refine dp 61 (.slc 7 59 none (some 60) none) (ok_slco_hi (j := v6.toNat) rfl rfl rfl (inC_to c11) (inC_le c11)) ?_
  refine dk 1 (.i 62 (.agg [vi ((ix a7 v6.toNat).Kind), vi ((ix a7 v6.toNat).From), vi ((ix a7 v6.toNat).To), vt ((ix a7 v6.toNat).Grand), vt ((ix a7 v6.toNat).Place), vt ((ix a7 v6.toNat).Who), vi ((ix a7 v6.toNat).Deposit)]) .a) ?_
  refine bK h fun y11 hy11 h => ?_
  refine RegD.op (OpD.dyn (y' := vi y11.1) (obx := [some (.row 7 [.agg [eS 1 vt a0, eS 1 vt a1, eS 4 eRoad a2, eS 3 eGrand a3, vi a4, vi a5, .map 1]]), some (.mp (mpE vi (eM eArr2_Str vi) y10.2)), some (.row 7 (List.map eItem a7))]) (oby := [some (.row 7 [.agg [eS 1 vt a0, eS 1 vt a1, eS 4 eRoad a2, eS 3 eGrand a3, vi a4, vi a5, .map 1]]), some (.mp (mpE vi (eM eArr2_Str vi) y11.2)), some (.row 7 (List.map eItem a7))]) (ob2 := [some (.row 7 [.agg [eS 1 vt a0, eS 1 vt a1, eS 4 eRoad a2, eS 3 eGrand a3, vi a4, vi a5, .map 1]]), some (.mp (mpE vi (eM eArr2_Str vi) y11.2)), some (.row 7 (List.map eItem a7)), some (.row 7 [.agg [vi ((ix a7 v6.toNat).Kind), vi ((ix a7 v6.toNat).From), vi ((ix a7 v6.toNat).To), vt ((ix a7 v6.toNat).Grand), vt ((ix a7 v6.toNat).Place), vt ((ix a7 v6.toNat).Who), vi ((ix a7 v6.toNat).Deposit)]]), none, none, none, none, none, none]) (tch := [0, 1, 2]) 0 _ _ _ (cy (I0 63 (.dyn 58 [61, 62]))) rfl (diary_plan_travels_2_ok n a0 a1 a2 a3 a4 a5 y10.2 a7 0 v6.toNat (ix a7 v6.toNat) y11 hy11) [0, 1, 2] (by kernel_rfl) (.cons rfl (.cons rfl (.cons rfl .nil))) (by kernel_rfl) (by kernel_rfl) (.cons rfl (.same (mp_ren vi_frz (eM_frz eArr2_Str vi) _ _) (.same (row_ren eItem_frz _ _ _) .nil))) (by kernel_rfl) (.cons rfl (.same (mp_ren vi_frz (eM_frz eArr2_Str vi) _ _) (.same (row_ren eItem_frz _ _ _) .nil))) (by kernel_rfl) rfl (.inl rfl)) ?_
  refine dk 1 (.i 11 (vi y11.1) .a) ?_
  refine dfi (ob' := [some (.row 7 [.agg [eS 1 vt a0, eS 1 vt a1, eS 4 eRoad a2, eS 3 eGrand a3, vi a4, vi a5, .map 1]]), some (.mp (mpE vi (eM eArr2_Str vi) y11.2)), some (.row 7 (List.map eItem a7)), some (.row 7 [.agg [vi ((ix a7 v6.toNat).Kind), vi ((ix a7 v6.toNat).From), vi ((ix a7 v6.toNat).To), vt ((ix a7 v6.toNat).Grand), vt ((ix a7 v6.toNat).Place), vt ((ix a7 v6.toNat).Who), vi ((ix a7 v6.toNat).Deposit)]])]) (.d4 (.d3 (.k4 (.k4 (.k (.i 11 (vi y11.1) .n)))))) [0, 1, 2, 3] (.cons rfl (obRen_mp vi_frz (eM_frz eArr2_Str vi) rfl (obRen_row eItem_frz rfl (.cons rfl .nil)))) ?_
  refine sk (.k4 (.k4 (.k2 (.i 65 (vb (y11.1 != (0 : Int))) .n)))) ?_
  refine tc h (fun c16 h => ?_) (fun c16 h => ?_)
  ·refine sk (.i 4 (vi v6) (.i 5 (vi y11.1) .n)) ?_
   refine q3 ?_
   have h := si h
   subst h
   exact DoneS.ret (S' := ⟨[(4, vi v6), (5, vi y11.1)], [some (.row 7 [.agg [eS 1 vt a0, eS 1 vt a1, eS 4 eRoad a2, eS 3 eGrand a3, vi a4, vi a5, .map 1]]), some (.mp (mpE vi (eM eArr2_Str vi) y11.2)), some (.row 7 (List.map eItem a7))]⟩) (sc [0, 1, 2] (by decide) (by kernel_rfl) (.cons rfl (obRen_mp vi_frz (eM_frz eArr2_Str vi) rfl (obRen_row eItem_frz rfl .nil))) rfl rfl) rfl rfl
  refine q2 ?_
  refine q6 ?_
  refine jo 68 (.bin .add false 55 (ki 1)) (r_addn (i := 2) (j := 1) rfl rfl rfl) ?_
  refine jk 1 (.d (.k4 (.k4 (.i 55 (vi 3) .n)))) ?_
  refine RndE.seq ?_
  refine sk (.k4 (.k4 (.k (.i 56 (vb true) .n)))) ?_
  refine q1 ?_
  refine TriE.cond (b := true) rfl (fun c17 => ?_) (fun c17 => ?_)
  rotate_left
  ·cases c17
  refine q2 ?_
  refine q7 ?_
  refine sk (.k4 (.k4 (.k (.i 10 (.fn (.func 110) [.ptr 0 0 0] []) .n)))) ?_
  refine q1 ?_
  refine ts .a ?_
  refine TriE.draw (by kernel_rfl) ?_
  refine dk 3 (.i 60 (vi v6) (.i 59 (.own 2 0 a7.length) (.i 58 (.fn (.func 110) [.ptr 0 0 0] []) .a))) ?_
  refine dp 61 (.slc 7 59 none (some 60) none) (ok_slco_hi (j := v6.toNat) rfl rfl rfl (inC_to c11) (inC_le c11)) ?_
  refine dk 1 (.i 62 (.agg [vi ((ix a7 v6.toNat).Kind), vi ((ix a7 v6.toNat).From), vi ((ix a7 v6.toNat).To), vt ((ix a7 v6.toNat).Grand), vt ((ix a7 v6.toNat).Place), vt ((ix a7 v6.toNat).Who), vi ((ix a7 v6.toNat).Deposit)]) .a) ?_
  refine bK h fun y12 hy12 h => ?_
  refine RegD.op (OpD.dyn (y' := vi y12) (obx := [some (.row 7 [.agg [eS 1 vt a0, eS 1 vt a1, eS 4 eRoad a2, eS 3 eGrand a3, vi a4, vi a5, .map 1]]), some (.mp (mpE vi (eM eArr2_Str vi) y11.2)), some (.row 7 (List.map eItem a7))]) (oby := [some (.row 7 [.agg [eS 1 vt a0, eS 1 vt a1, eS 4 eRoad a2, eS 3 eGrand a3, vi a4, vi a5, .map 1]]), some (.mp (mpE vi (eM eArr2_Str vi) y11.2)), some (.row 7 (List.map eItem a7))]) (ob2 := [some (.row 7 [.agg [eS 1 vt a0, eS 1 vt a1, eS 4 eRoad a2, eS 3 eGrand a3, vi a4, vi a5, .map 1]]), some (.mp (mpE vi (eM eArr2_Str vi) y11.2)), some (.row 7 (List.map eItem a7)), some (.row 7 [.agg [vi ((ix a7 v6.toNat).Kind), vi ((ix a7 v6.toNat).From), vi ((ix a7 v6.toNat).To), vt ((ix a7 v6.toNat).Grand), vt ((ix a7 v6.toNat).Place), vt ((ix a7 v6.toNat).Who), vi ((ix a7 v6.toNat).Deposit)]]), none, none, none, none, none, none]) (tch := []) 0 _ _ _ (cy (I0 63 (.dyn 58 [61, 62]))) rfl (diary_plan_isTuned_2_ok n a0 a1 a2 a3 a4 a5 y11.2 a7 0 v6.toNat (ix a7 v6.toNat) y12 hy12) [0, 1, 2] (by kernel_rfl) (.cons rfl (.cons rfl (.cons rfl .nil))) (by kernel_rfl) (by kernel_rfl) (.cons rfl (.same (mp_ren vi_frz (eM_frz eArr2_Str vi) _ _) (.same (row_ren eItem_frz _ _ _) .nil))) (by kernel_rfl) (.cons rfl (.same (mp_ren vi_frz (eM_frz eArr2_Str vi) _ _) (.same (row_ren eItem_frz _ _ _) .nil))) (by kernel_rfl) rfl (.inr ⟨rfl, rfl⟩)) ?_
  refine dk 1 (.i 11 (vi y12) .a) ?_
  refine dfi (ob' := [some (.row 7 [.agg [eS 1 vt a0, eS 1 vt a1, eS 4 eRoad a2, eS 3 eGrand a3, vi a4, vi a5, .map 1]]), some (.mp (mpE vi (eM eArr2_Str vi) y11.2)), some (.row 7 (List.map eItem a7)), some (.row 7 [.agg [vi ((ix a7 v6.toNat).Kind), vi ((ix a7 v6.toNat).From), vi ((ix a7 v6.toNat).To), vt ((ix a7 v6.toNat).Grand), vt ((ix a7 v6.toNat).Place), vt ((ix a7 v6.toNat).Who), vi ((ix a7 v6.toNat).Deposit)]])]) (.d4 (.d3 (.k4 (.k4 (.k (.i 11 (vi y12) .n)))))) [0, 1, 2, 3] (.cons rfl (obRen_mp vi_frz (eM_frz eArr2_Str vi) rfl (obRen_row eItem_frz rfl (.cons rfl .nil)))) ?_
  refine sk (.k4 (.k4 (.k2 (.i 65 (vb (y12 != (0 : Int))) .n)))) ?_
  refine tc h (fun c18 h => ?_) (fun c18 h => ?_)
  ·refine sk (.i 4 (vi v6) (.i 5 (vi y12) .n)) ?_
   refine q3 ?_
   have h := si h
   subst h
   exact DoneS.ret (S' := ⟨[(4, vi v6), (5, vi y12)], [some (.row 7 [.agg [eS 1 vt a0, eS 1 vt a1, eS 4 eRoad a2, eS 3 eGrand a3, vi a4, vi a5, .map 1]]), some (.mp (mpE vi (eM eArr2_Str vi) y11.2)), some (.row 7 (List.map eItem a7))]⟩) (sc [0, 1, 2] (by decide) (by kernel_rfl) (.cons rfl (obRen_mp vi_frz (eM_frz eArr2_Str vi) rfl (obRen_row eItem_frz rfl .nil))) rfl rfl) rfl rfl
  refine q2 ?_
  refine q6 ?_
  refine jo 68 (.bin .add false 55 (ki 1)) (r_addn (i := 3) (j := 1) rfl rfl rfl) ?_
  refine jk 1 (.d (.k4 (.k4 (.i 55 (vi 4) .n)))) ?_
  refine RndE.seq ?_
  refine sk (.k4 (.k4 (.k (.i 56 (vb false) .n)))) ?_
  refine q1 ?_
  refine TriE.cond (b := false) rfl (fun c19 => ?_) (fun c19 => ?_)
  ·cases c19
  refine q5 ?_
  refine q6 ?_
  refine cK h fun c20 h => ?_
  refine jo 69 (.bin .add false 17 (ki 1)) (r_add rfl rfl c20) ?_
  refine jk 1 (.d (.k4 (.i 17 (vi (v6 + 1)) .n))) ?_
  exact Vs.intro (sc [0, 1, 2] (by decide) (by kernel_rfl) (.cons rfl (obRen_mp vi_frz (eM_frz eArr2_Str vi) rfl (obRen_row eItem_frz rfl .nil))) rfl rfl) ⟨(v6 + 1, y11.2), rfl, h⟩
 refine q5 ?_
 exact Vs.intro sy ⟨v7, rfl, h⟩
theorem diary_Accept_2_ok (n : Nat) (a0 : Diary) (a1 : List Item) (r : Int × Int) (h : diary_Accept_2 n a0 a1 = some r) : FnL Try.prog 22 [.agg [eS 1 vt a0.Places, eS 1 vt a0.Technicians, eS 4 eRoad a0.Roads, eS 3 eGrand a0.Grands, vi a0.Change, vi a0.Lasts], .own 0 0 a1.length] [some (.row 7 (List.map eItem a1))] (.tup [vi r.2, vi r.1]) [some (.row 7 (List.map eItem a1))] := by
 dsimp only [diary_Accept_2] at h
 refine fob [4, 5] Try.call22 Try.func22 rfl (.cons rfl .nil) ?_
 refine sko (.d (.k (.i 2 (.ptr 1 0 0) .n))) [some (.row 7 (List.map eItem a1)), some (.row 6 [.agg [eS 1 vt a0.Places, eS 1 vt a0.Technicians, eS 4 eRoad a0.Roads, eS 3 eGrand a0.Grands, vi a0.Change, vi a0.Lasts]])] ?_
 refine TriE.seqK2 h (fun (v4 : Int) => St.mk [(1, .own 0 0 a1.length), (6, .p (.pointer none)), (7, vi v4)] [some (.row 7 (List.map eItem a1))]) (fun (_ : Unit) => St.mk [(1, .own 0 0 a1.length), (6, .ptr 2 0 0), (7, vi 0)] [some (.row 7 (List.map eItem a1)), some (.mp (mpE vi (eM eArr2_Str vi) ([] : List (Int × List (Arr2_Str × Int))))), some (.row 7 [.agg [eS 1 vt a0.Places, eS 1 vt a0.Technicians, eS 4 eRoad a0.Roads, eS 3 eGrand a0.Grands, vi a0.Change, vi a0.Lasts, .map 1]])]) ?_ ?_ ?_
 ·rintro v4 h
  refine q1 ?_
  refine sk (.k3 (.i 14 (vb (v4 != (0 : Int))) .n)) ?_
  refine tc h (fun c1 h => ?_) (fun c1 h => ?_)
  ·refine sk (.i 4 (vi 0) (.i 5 (vi v4) .n)) ?_
   refine q3 ?_
   have h := si h
   subst h
   exact DoneS.ret Sees.refl rfl rfl
  refine q2 ?_
  refine sj ?_
  refine rk 2 (.i 16 (.p (.pointer none)) (.i 17 (.own 0 0 a1.length) .n)) ?_
  refine bK h fun y5 hy5 h => ?_
  refine jco (.tup [vi y5.1, vi y5.2]) 18 [16, 17] (diary_plan_accept_3_ok n a1 y5 hy5) [0] rfl (.same (row_ren eItem_frz _ _ _) .nil) (.same (row_ren eItem_frz _ _ _) .nil) rfl ?_
  refine jk 4 (.i 4 (vi y5.1) (.i 5 (vi y5.2) .n)) ?_
  refine q3 ?_
  have h := si h
  subst h
  exact DoneS.ret Sees.refl rfl rfl
 ·rintro ⟨⟩ h
  refine q1 ?_
  refine sk (.k3 (.i 14 (vb false) .n)) ?_
  refine TriE.cond (b := false) rfl (fun c2 => ?_) (fun c2 => ?_)
  ·cases c2
  refine q2 ?_
  refine sj ?_
  refine rk 2 (.i 16 (.ptr 2 0 0) (.i 17 (.own 0 0 a1.length) .n)) ?_
  refine bK h fun y6 hy6 h => ?_
  refine jco (.tup [vi y6.1, vi y6.2.1]) 18 [16, 17] (diary_plan_accept_4_ok n a0.Places a0.Technicians a0.Roads a0.Grands a0.Change a0.Lasts ([] : List (Int × List (Arr2_Str × Int))) a1 y6 hy6) [2, 1, 0] rfl (.cons rfl (.same (mp_ren vi_frz (eM_frz eArr2_Str vi) _ _) (.same (row_ren eItem_frz _ _ _) .nil))) (.cons rfl (.same (mp_ren vi_frz (eM_frz eArr2_Str vi) _ _) (.same (row_ren eItem_frz _ _ _) .nil))) rfl ?_
  refine jk 4 (.i 4 (vi y6.1) (.i 5 (vi y6.2.1) .n)) ?_
  refine q3 ?_
  have h := si h
  subst h
  exact DoneS.ret (S' := ⟨[(4, vi y6.1), (5, vi y6.2.1)], [some (.row 7 (List.map eItem a1))]⟩) (sc [0] (by decide) (by kernel_rfl) (obRen_row eItem_frz rfl .nil) rfl rfl) rfl rfl
 intro k1 k2 h
 refine q6 ?_
 refine rk 1 (.k (.i 9 (.agg [eS 1 vt a0.Places, eS 1 vt a0.Technicians, eS 4 eRoad a0.Roads, eS 3 eGrand a0.Grands, vi a0.Change, vi a0.Lasts]) .n)) ?_
 refine bK h fun y1 hy1 h => ?_
 rcases y1 with y1 | y1
 ·dsimp only at h
  refine jc 10 [9] (diary_open_ok n a0 (Sum.inl y1) hy1) ?_
  refine jk 5 (.d (.k (.i 6 (.p (.pointer none)) (.i 7 (vi y1) .n)))) ?_
  exact Vs.intro (sc [0] (by decide) (by kernel_rfl) (obRen_row eItem_frz rfl .nil) rfl rfl) (.inl ⟨y1, rfl, h⟩)
 dsimp only at h
 refine jco (.tup [.ptr 3 0 0, vi 0]) 10 [9] (diary_open_ok n a0 (Sum.inr y1) hy1) [] rfl ObsRen.nil (.same (mp_ren vi_frz (eM_frz eArr2_Str vi) _ _) (.cons rfl .nil)) rfl ?_
 refine jk 5 (.d (.k (.i 6 (.ptr 3 0 0) (.i 7 (vi 0) .n)))) ?_
 exact Vs.intro (sc [0, 2, 3] (by decide) (by kernel_rfl) (obRen_row eItem_frz rfl (obRen_mp vi_frz (eM_frz eArr2_Str vi) rfl (.cons rfl .nil))) rfl rfl) (.inr ⟨(), rfl, h⟩)
set_option maxHeartbeats 1000000 in
theorem agraffetop_TopTunedConcerts_ok (n : Nat) (a0 : Diary) (a1 : List Item) (a2 : Int) (r : Bool) (h : agraffetop_TopTunedConcerts n a0 a1 a2 = some r) : FnL Try.prog 10 [.agg [eS 1 vt a0.Places, eS 1 vt a0.Technicians, eS 4 eRoad a0.Roads, eS 3 eGrand a0.Grands, vi a0.Change, vi a0.Lasts], eS 7 eItem a1, vi a2] [] (vb r) [] := by
  dsimp only [agraffetop_TopTunedConcerts] at h
  refine FnL.ofS (ts := [6]) Try.call10 Try.func10 rfl rfl (Nat.le_of_ble_eq_true rfl) (Nat.le_of_ble_eq_true rfl) (fun j h => absurd h (Nat.not_lt_zero j)) ?_
  show TriE _ _ _ _ _ (St.mk [(0, .agg [eS 1 vt a0.Places, eS 1 vt a0.Technicians, eS 4 eRoad a0.Roads, eS 3 eGrand a0.Grands, vi a0.Change, vi a0.Lasts]), (1, eS 7 eItem a1), (2, vi a2)] []) _
  refine TriE.seq ?_
  refine TriE.run [(1, eS 7 eItem a1), (2, vi a2), (3, .ptr 0 0 0)] [some (.row 6 [.agg [eS 1 vt a0.Places, eS 1 vt a0.Technicians, eS 4 eRoad a0.Roads, eS 3 eGrand a0.Grands, vi a0.Change, vi a0.Lasts]])] (by kernel_rfl) ?_
  refine TriE.seq ?_
  refine TriE.seq ?_
  refine TriE.regJ ?_
  refine bK h fun y1 hy1 h => ?_
  refine RegJ.op (Op1.call (y' := vb y1) (obx := []) (oby := []) (ob2 := [some (.row 6 [.agg [eS 1 vt a0.Places, eS 1 vt a0.Technicians, eS 4 eRoad a0.Roads, eS 3 eGrand a0.Grands, vi a0.Change, vi a0.Lasts]])]) _ _ (cz (I0 16 (.call 51 [])) (by kernel_rfl)) rfl (agraffetop_written_ok n y1 hy1) [] (by kernel_rfl) (.cons rfl .nil) (by kernel_rfl) (by kernel_rfl) ObsRen.nil (by kernel_rfl) ObsRen.nil (by kernel_rfl)) ?_
  refine jrd 1 [(1, eS 7 eItem a1), (2, vi a2), (3, .ptr 0 0 0), (17, vb (!y1))] [some (.row 6 [.agg [eS 1 vt a0.Places, eS 1 vt a0.Technicians, eS 4 eRoad a0.Roads, eS 3 eGrand a0.Grands, vi a0.Change, vi a0.Lasts]])] (by kernel_rfl) rfl ?_
  refine TriE.cond (b := !y1) rfl (fun c1 => ?_) (fun c1 => ?_)
  · have h := cond_t h c1
    refine TriE.seq ?_
    refine TriE.run [(6, vb false)] [some (.row 6 [.agg [eS 1 vt a0.Places, eS 1 vt a0.Technicians, eS 4 eRoad a0.Roads, eS 3 eGrand a0.Grands, vi a0.Change, vi a0.Lasts]])] (by kernel_rfl) ?_
    refine TriE.ret ?_
    have h := Option.some.inj h
    subst h
    exact DoneS.ret (S' := ⟨[(6, vb false)], []⟩) (sc [] (by decide) (by kernel_rfl) ObRen.nil rfl rfl) rfl rfl
  have h := cond_f h c1
  refine TriE.skip ?_
  refine TriE.seq ?_
  refine TriE.seq ?_
  refine TriE.regJ ?_
  refine RegJ.run 1 [(1, eS 7 eItem a1), (2, vi a2), (3, .ptr 0 0 0), (18, .agg [eS 1 vt a0.Places, eS 1 vt a0.Technicians, eS 4 eRoad a0.Roads, eS 3 eGrand a0.Grands, vi a0.Change, vi a0.Lasts])] [some (.row 6 [.agg [eS 1 vt a0.Places, eS 1 vt a0.Technicians, eS 4 eRoad a0.Roads, eS 3 eGrand a0.Grands, vi a0.Change, vi a0.Lasts]])] (by kernel_rfl) ?_
  refine bK h fun y2 hy2 h => ?_
  refine RegJ.op (Op1.call (y' := vb y2) (obx := []) (oby := []) (ob2 := [some (.row 6 [.agg [eS 1 vt a0.Places, eS 1 vt a0.Technicians, eS 4 eRoad a0.Roads, eS 3 eGrand a0.Grands, vi a0.Change, vi a0.Lasts]])]) _ _ (cz (I0 19 (.call 14 [(.t 18)])) (by kernel_rfl)) rfl (agraffelaw09_Light_ok n a0 y2 hy2) [] (by kernel_rfl) (.cons rfl (.cons rfl .nil)) (by kernel_rfl) (by kernel_rfl) ObsRen.nil (by kernel_rfl) ObsRen.nil (by kernel_rfl)) ?_
  refine RegJ.run 2 [(1, eS 7 eItem a1), (2, vi a2), (3, .ptr 0 0 0), (21, vb (!y2))] [some (.row 6 [.agg [eS 1 vt a0.Places, eS 1 vt a0.Technicians, eS 4 eRoad a0.Roads, eS 3 eGrand a0.Grands, vi a0.Change, vi a0.Lasts]])] (by kernel_rfl) ?_
  refine RegJ.op (Op1.valk (g := !(!y2)) (v := eS 7 eItem a1) _ _ (cz (IG 22 (.mov (.t 1)) 21 false) (by kernel_rfl)) rfl (by kernel_rfl) (fun hg => (.cons rfl .nil))) ?_
  refine bK h fun y3 hy3 h => ?_
  refine RegJ.op (Op1.callg (g := !(!y2)) (y' := vb y3) (obx := []) _ _ (cz (IG 23 (.call 21 [(.t 22)]) 21 false) (by kernel_rfl)) rfl (fun hg => agraffelaw09_Few_ok n a1 y3 (gcall_some hy3 hg)) [] (fun hg => by kernel_rfl) (fun hg => (.cons rfl (.cons hg .nil))) (by kernel_rfl) (by kernel_rfl) ObsRen.nil (by kernel_rfl) (by kernel_rfl)) ?_
  refine RegJ.op (Op1.valk (g := !(!y2)) (v := vb (!y3)) _ _ (cz (IG 24 (.un .not (.t 23)) 21 false) (by kernel_rfl)) rfl (by kernel_rfl) (fun hg => (.cons hg .nil))) ?_
  refine RegJ.op (Op1.or (cz (I0 25 (.pick (.t 21) (.c (.p (.bool true))) (.t 24))) (by kernel_rfl)) rfl rfl (by first | exact hokO1 | exact hokO0 | simp)) ?_
  refine RegJ.run 1 [(1, eS 7 eItem a1), (2, vi a2), (3, .ptr 0 0 0), (26, vb ((!y2) || (!y3)))] [some (.row 6 [.agg [eS 1 vt a0.Places, eS 1 vt a0.Technicians, eS 4 eRoad a0.Roads, eS 3 eGrand a0.Grands, vi a0.Change, vi a0.Lasts]])] (by kernel_rfl) ?_
  refine RegJ.op (Op1.valk (g := !((!y2) || (!y3))) (v := vi a2) _ _ (cz (IG 27 (.mov (.t 2)) 26 false) (by kernel_rfl)) rfl (by kernel_rfl) (fun hg => (.cons rfl .nil))) ?_
  refine RegJ.op (Op1.valk (g := !((!y2) || (!y3))) (v := eS 7 eItem a1) _ _ (cz (IG 28 (.mov (.t 1)) 26 false) (by kernel_rfl)) rfl (by kernel_rfl) (fun hg => (.cons rfl .nil))) ?_
  refine RegJ.op (Op1.valg (g := !((!y2) || (!y3))) (v := vi ((a1.length : Nat) : Int)) _ _ (cz (IG 29 (.len 0 (.t 28)) 26 false) (by kernel_rfl)) rfl (fun hg => (ok_len_m rfl)) (fun hg => (.cons hg .nil))) ?_
  refine cK h fun c2 h => ?_
  refine RegJ.op (Op1.valg (g := !((!y2) || (!y3))) (v := vi (((a1.length : Nat) : Int) - 1)) _ _ (cz (IG 30 (.bin .sub false (.t 29) (.c (.p (.int .i64 1)))) 26 false) (by kernel_rfl)) rfl (fun hg => (r_sub rfl rfl (gor c2 hg))) (fun hg => (.cons hg (.cons rfl .nil)))) ?_
  refine bK h fun y4 hy4 h => ?_
  refine RegJ.op (Op1.callg (g := !((!y2) || (!y3))) (y' := vb ((decide (0 ≤ a2)) && (decide (a2 ≤ (((a1.length : Nat) : Int) - 1))))) (obx := []) _ _ (cz (IG 31 (.call 48 [(.t 27), (.c (.p (.int .i64 0))), (.t 30)]) 26 false) (by kernel_rfl)) rfl (fun hg => agraffebase_Within_ok n a2 0 (((a1.length : Nat) : Int) - 1) y4 (gcall_some hy4 hg)) [] (fun hg => by kernel_rfl) (fun hg => (.cons rfl (.cons hg (.cons rfl (.cons hg .nil))))) (by kernel_rfl) (by kernel_rfl) ObsRen.nil (by kernel_rfl) (by kernel_rfl)) ?_
  refine RegJ.op (Op1.valk (g := !((!y2) || (!y3))) (v := vb (!((decide (0 ≤ a2)) && (decide (a2 ≤ (((a1.length : Nat) : Int) - 1)))))) _ _ (cz (IG 32 (.un .not (.t 31)) 26 false) (by kernel_rfl)) rfl (by kernel_rfl) (fun hg => (.cons hg .nil))) ?_
  refine RegJ.op (Op1.or (cz (I0 33 (.pick (.t 26) (.c (.p (.bool true))) (.t 32))) (by kernel_rfl)) rfl rfl (by first | exact hokO1 | exact hokO0 | simp)) ?_
  refine jd [(1, eS 7 eItem a1), (2, vi a2), (3, .ptr 0 0 0), (33, vb (((!y2) || (!y3)) || (!((decide (0 ≤ a2)) && (decide (a2 ≤ (((a1.length : Nat) : Int) - 1)))))))] (by kernel_rfl) rfl ?_
  refine TriE.cond (b := ((!y2) || (!y3)) || (!((decide (0 ≤ a2)) && (decide (a2 ≤ (((a1.length : Nat) : Int) - 1)))))) rfl (fun c3 => ?_) (fun c3 => ?_)
  · have h := cond_t h c3
    refine TriE.seq ?_
    refine TriE.run [(6, vb true)] [some (.row 6 [.agg [eS 1 vt a0.Places, eS 1 vt a0.Technicians, eS 4 eRoad a0.Roads, eS 3 eGrand a0.Grands, vi a0.Change, vi a0.Lasts]])] (by kernel_rfl) ?_
    refine TriE.ret ?_
    have h := Option.some.inj h
    subst h
    exact DoneS.ret (S' := ⟨[(6, vb true)], []⟩) (sc [] (by decide) (by kernel_rfl) ObRen.nil rfl rfl) rfl rfl
  have h := cond_f h c3
  refine TriE.skip ?_
  refine TriE.seq ?_
  refine TriE.regJ ?_
  refine RegJ.run 3 [(1, eS 7 eItem a1), (2, vi a2), (3, .ptr 0 0 0), (35, .agg [eS 1 vt a0.Places, eS 1 vt a0.Technicians, eS 4 eRoad a0.Roads, eS 3 eGrand a0.Grands, vi a0.Change, vi a0.Lasts]), (36, eS 7 eItem a1), (37, vi a2)] [some (.row 6 [.agg [eS 1 vt a0.Places, eS 1 vt a0.Technicians, eS 4 eRoad a0.Roads, eS 3 eGrand a0.Grands, vi a0.Change, vi a0.Lasts]])] (by kernel_rfl) ?_
  refine bK h fun y5 hy5 h => ?_
  refine RegJ.op (Op1.call (y' := .tup [vi y5.2, vi y5.1]) (obx := []) (oby := []) (ob2 := [some (.row 6 [.agg [eS 1 vt a0.Places, eS 1 vt a0.Technicians, eS 4 eRoad a0.Roads, eS 3 eGrand a0.Grands, vi a0.Change, vi a0.Lasts]])]) _ _ (cz (I0 38 (.call 52 [(.t 35), (.t 36), (.t 37)])) (by kernel_rfl)) rfl (diary_TunedFor_ok n a0 a1 a2 y5 hy5) [] (by kernel_rfl) (.cons rfl (.cons rfl (.cons rfl (.cons rfl .nil)))) (by kernel_rfl) (by kernel_rfl) ObsRen.nil (by kernel_rfl) ObsRen.nil (by kernel_rfl)) ?_
  refine jrd 5 [(1, eS 7 eItem a1), (2, vi a2), (3, .ptr 0 0 0), (7, vi y5.2), (8, vi y5.1)] [some (.row 6 [.agg [eS 1 vt a0.Places, eS 1 vt a0.Technicians, eS 4 eRoad a0.Roads, eS 3 eGrand a0.Grands, vi a0.Change, vi a0.Lasts]])] (by kernel_rfl) rfl ?_
  refine TriE.seq ?_
  refine TriE.seq ?_
  refine TriE.run [(1, eS 7 eItem a1), (2, vi a2), (3, .ptr 0 0 0), (7, vi y5.2), (42, vb (y5.1 != (0 : Int)))] [some (.row 6 [.agg [eS 1 vt a0.Places, eS 1 vt a0.Technicians, eS 4 eRoad a0.Roads, eS 3 eGrand a0.Grands, vi a0.Change, vi a0.Lasts]])] (by kernel_rfl) ?_
  refine TriE.cond (b := (y5.1 != (0 : Int))) rfl (fun c4 => ?_) (fun c4 => ?_)
  · have h := cond_t h c4
    refine TriE.seq ?_
    refine TriE.run [(6, vb true)] [some (.row 6 [.agg [eS 1 vt a0.Places, eS 1 vt a0.Technicians, eS 4 eRoad a0.Roads, eS 3 eGrand a0.Grands, vi a0.Change, vi a0.Lasts]])] (by kernel_rfl) ?_
    refine TriE.ret ?_
    have h := Option.some.inj h
    subst h
    exact DoneS.ret (S' := ⟨[(6, vb true)], []⟩) (sc [] (by decide) (by kernel_rfl) ObRen.nil rfl rfl) rfl rfl
  have h := cond_f h c4
  refine TriE.skip ?_
  refine TriE.seq ?_
  refine TriE.regJ ?_
  refine RegJ.run 2 [(1, eS 7 eItem a1), (2, vi a2), (3, .ptr 0 0 0), (7, vi y5.2), (43, eS 7 eItem a1), (44, vi a2)] [some (.row 6 [.agg [eS 1 vt a0.Places, eS 1 vt a0.Technicians, eS 4 eRoad a0.Roads, eS 3 eGrand a0.Grands, vi a0.Change, vi a0.Lasts]])] (by kernel_rfl) ?_
  refine cK h fun c5 h => ?_
  refine jv (.fptr 7 (List.map eItem a1) a2.toNat 0) (cz (I0 45 (.iaddr 7 (.t 43) (.t 44))) (by kernel_rfl)) (ok_iaddr_m (j := a2.toNat) rfl rfl (inB_to c5) (inB_lt c5)) rfl ?_
  refine cK h fun c6 h => ?_
  refine jv (.agg [vi ((ix a1 a2.toNat).Kind), vi ((ix a1 a2.toNat).From), vi ((ix a1 a2.toNat).To), vt ((ix a1 a2.toNat).Grand), vt ((ix a1 a2.toNat).Place), vt ((ix a1 a2.toNat).Who), vi ((ix a1 a2.toNat).Deposit)]) (cz (I0 46 (.load true 7 (.t 45))) (by kernel_rfl)) (ok_load_fm (v := .agg [vi ((ix a1 a2.toNat).Kind), vi ((ix a1 a2.toNat).From), vi ((ix a1 a2.toNat).To), vt ((ix a1 a2.toNat).Grand), vt ((ix a1 a2.toNat).Place), vt ((ix a1 a2.toNat).Who), vi ((ix a1 a2.toNat).Deposit)]) rfl c6 rfl) rfl ?_
  refine jrd 2 [(1, eS 7 eItem a1), (2, vi a2), (3, .ptr 0 0 0), (7, vi y5.2), (9, .ptr 1 0 0)] [some (.row 6 [.agg [eS 1 vt a0.Places, eS 1 vt a0.Technicians, eS 4 eRoad a0.Roads, eS 3 eGrand a0.Grands, vi a0.Change, vi a0.Lasts]]), some (.row 7 [.agg [vi ((ix a1 a2.toNat).Kind), vi ((ix a1 a2.toNat).From), vi ((ix a1 a2.toNat).To), vt ((ix a1 a2.toNat).Grand), vt ((ix a1 a2.toNat).Place), vt ((ix a1 a2.toNat).Who), vi ((ix a1 a2.toNat).Deposit)]])] (by kernel_rfl) rfl ?_
  refine TriE.seq ?_
  refine TriE.seq ?_
  refine TriE.sees (Sees.less (fr' := [(1, eS 7 eItem a1), (2, vi a2), (3, .ptr 0 0 0), (7, vi y5.2), (9, .ptr 1 0 0)]) (.cons rfl (.cons rfl (.cons rfl (.cons rfl (.cons rfl .nil)))))) ?_
  refine TriE.draw (by kernel_rfl) ?_
  refine RegD.run 2 [(48, vi a2), (47, vi y5.2), (1, eS 7 eItem a1), (2, vi a2), (3, .ptr 0 0 0), (7, vi y5.2), (9, .ptr 1 0 0)] [some (.row 6 [.agg [eS 1 vt a0.Places, eS 1 vt a0.Technicians, eS 4 eRoad a0.Roads, eS 3 eGrand a0.Grands, vi a0.Change, vi a0.Lasts]]), some (.row 7 [.agg [vi ((ix a1 a2.toNat).Kind), vi ((ix a1 a2.toNat).From), vi ((ix a1 a2.toNat).To), vt ((ix a1 a2.toNat).Grand), vt ((ix a1 a2.toNat).Place), vt ((ix a1 a2.toNat).Who), vi ((ix a1 a2.toNat).Deposit)]]), none, none] (by kernel_rfl) ?_
  refine cK h fun c7 h => ?_
  refine dv (vi (a2 - 1)) (cz (I0 49 (.bin .sub false (.t 48) (.c (.p (.int .i64 1))))) (by kernel_rfl)) (r_sub rfl rfl c7) rfl ?_
  refine bK h fun y6 hy6 h => ?_
  refine RegD.op (OpD.call (y' := vb ((decide (0 ≤ y5.2)) && (decide (y5.2 ≤ (a2 - 1))))) (obx := []) (oby := []) (ob2 := [some (.row 6 [.agg [eS 1 vt a0.Places, eS 1 vt a0.Technicians, eS 4 eRoad a0.Roads, eS 3 eGrand a0.Grands, vi a0.Change, vi a0.Lasts]]), some (.row 7 [.agg [vi ((ix a1 a2.toNat).Kind), vi ((ix a1 a2.toNat).From), vi ((ix a1 a2.toNat).To), vt ((ix a1 a2.toNat).Grand), vt ((ix a1 a2.toNat).Place), vt ((ix a1 a2.toNat).Who), vi ((ix a1 a2.toNat).Deposit)]]), none, none, none, none]) (tch := []) 0 _ _ (cz (I0 50 (.call 48 [(.t 47), (.c (.p (.int .i64 0))), (.t 49)])) (by kernel_rfl)) (agraffebase_Within_ok n y5.2 0 (a2 - 1) y6 hy6) [] (by kernel_rfl) (.cons rfl (.cons rfl (.cons rfl (.cons rfl .nil)))) (by kernel_rfl) (by kernel_rfl) ObsRen.nil (by kernel_rfl) ObsRen.nil (by kernel_rfl) rfl (.inr ⟨rfl, rfl⟩)) ?_
  refine RegD.run 2 [(52, vb (!((decide (0 ≤ y5.2)) && (decide (y5.2 ≤ (a2 - 1)))))), (51, vb (!((decide (0 ≤ y5.2)) && (decide (y5.2 ≤ (a2 - 1)))))), (50, vb ((decide (0 ≤ y5.2)) && (decide (y5.2 ≤ (a2 - 1))))), (49, vi (a2 - 1)), (48, vi a2), (47, vi y5.2), (1, eS 7 eItem a1), (2, vi a2), (3, .ptr 0 0 0), (7, vi y5.2), (9, .ptr 1 0 0)] [some (.row 6 [.agg [eS 1 vt a0.Places, eS 1 vt a0.Technicians, eS 4 eRoad a0.Roads, eS 3 eGrand a0.Grands, vi a0.Change, vi a0.Lasts]]), some (.row 7 [.agg [vi ((ix a1 a2.toNat).Kind), vi ((ix a1 a2.toNat).From), vi ((ix a1 a2.toNat).To), vt ((ix a1 a2.toNat).Grand), vt ((ix a1 a2.toNat).Place), vt ((ix a1 a2.toNat).Who), vi ((ix a1 a2.toNat).Deposit)]]), none, none, none, none, none, none] (by kernel_rfl) ?_
  refine RegD.op (OpD.valk (g := !(!((decide (0 ≤ y5.2)) && (decide (y5.2 ≤ (a2 - 1)))))) (v := eS 7 eItem a1) _ _ (cz (IG 53 (.mov (.t 1)) 52 false) (by kernel_rfl)) rfl (by kernel_rfl) (fun hg => (.cons rfl .nil))) ?_
  refine RegD.op (OpD.valk (g := !(!((decide (0 ≤ y5.2)) && (decide (y5.2 ≤ (a2 - 1)))))) (v := vi y5.2) _ _ (cz (IG 54 (.mov (.t 7)) 52 false) (by kernel_rfl)) rfl (by kernel_rfl) (fun hg => (.cons rfl .nil))) ?_
  refine cK h fun c8 h => ?_
  refine RegD.op (OpD.valg (g := !(!((decide (0 ≤ y5.2)) && (decide (y5.2 ≤ (a2 - 1)))))) (v := .fptr 7 (List.map eItem a1) y5.2.toNat 0) _ _ (cz (IG 55 (.iaddr 7 (.t 53) (.t 54)) 52 false) (by kernel_rfl)) rfl (fun hg => (ok_iaddr_m (j := y5.2.toNat) rfl rfl (inB_to (gor c8 hg)) (inB_lt (gor c8 hg)))) (fun hg => (.cons hg (.cons hg .nil)))) ?_
  refine RegD.op (OpD.valk (g := !(!((decide (0 ≤ y5.2)) && (decide (y5.2 ≤ (a2 - 1)))))) (v := .fptr 7 (List.map eItem a1) y5.2.toNat 0) _ _ (cz (IG 56 (.faddr 0 (.t 55)) 52 false) (by kernel_rfl)) rfl (by kernel_rfl) (fun hg => (.cons hg .nil))) ?_
  refine cK h fun c9 h => ?_
  refine RegD.op (OpD.valg (g := !(!((decide (0 ≤ y5.2)) && (decide (y5.2 ≤ (a2 - 1)))))) (v := vi ((ix a1 y5.2.toNat).Kind)) _ _ (cz (IG 57 (.load false 1 (.t 56)) 52 false) (by kernel_rfl)) rfl (fun hg => (ok_load_fm (v := vi ((ix a1 y5.2.toNat).Kind)) rfl (gor c9 hg) rfl)) (fun hg => (.cons hg .nil))) ?_
  refine RegD.op (OpD.valk (g := !(!((decide (0 ≤ y5.2)) && (decide (y5.2 ≤ (a2 - 1)))))) (v := vb (((ix a1 y5.2.toNat).Kind) != (0 : Int))) _ _ (cz (IG 58 (.bin .neq false (.t 57) (.c (.p (.int .i64 0)))) 52 false) (by kernel_rfl)) rfl (by kernel_rfl) (fun hg => (.cons hg (.cons rfl .nil)))) ?_
  refine RegD.op (OpD.or (cz (I0 59 (.pick (.t 52) (.c (.p (.bool true))) (.t 58))) (by kernel_rfl)) rfl rfl (by first | exact hokO1 | exact hokO0 | simp)) ?_
  refine RegD.run 1 [(60, vb ((!((decide (0 ≤ y5.2)) && (decide (y5.2 ≤ (a2 - 1))))) || (((ix a1 y5.2.toNat).Kind) != (0 : Int)))), (59, vb ((!((decide (0 ≤ y5.2)) && (decide (y5.2 ≤ (a2 - 1))))) || (((ix a1 y5.2.toNat).Kind) != (0 : Int)))), (58, .cond (!(!((decide (0 ≤ y5.2)) && (decide (y5.2 ≤ (a2 - 1)))))) (vb (((ix a1 y5.2.toNat).Kind) != (0 : Int)))), (57, .cond (!(!((decide (0 ≤ y5.2)) && (decide (y5.2 ≤ (a2 - 1)))))) (vi ((ix a1 y5.2.toNat).Kind))), (56, .cond (!(!((decide (0 ≤ y5.2)) && (decide (y5.2 ≤ (a2 - 1)))))) (.fptr 7 (List.map eItem a1) y5.2.toNat 0)), (55, .cond (!(!((decide (0 ≤ y5.2)) && (decide (y5.2 ≤ (a2 - 1)))))) (.fptr 7 (List.map eItem a1) y5.2.toNat 0)), (54, .cond (!(!((decide (0 ≤ y5.2)) && (decide (y5.2 ≤ (a2 - 1)))))) (vi y5.2)), (53, .cond (!(!((decide (0 ≤ y5.2)) && (decide (y5.2 ≤ (a2 - 1)))))) (eS 7 eItem a1)), (52, vb (!((decide (0 ≤ y5.2)) && (decide (y5.2 ≤ (a2 - 1)))))), (51, vb (!((decide (0 ≤ y5.2)) && (decide (y5.2 ≤ (a2 - 1)))))), (50, vb ((decide (0 ≤ y5.2)) && (decide (y5.2 ≤ (a2 - 1))))), (49, vi (a2 - 1)), (48, vi a2), (47, vi y5.2), (1, eS 7 eItem a1), (2, vi a2), (3, .ptr 0 0 0), (7, vi y5.2), (9, .ptr 1 0 0)] [some (.row 6 [.agg [eS 1 vt a0.Places, eS 1 vt a0.Technicians, eS 4 eRoad a0.Roads, eS 3 eGrand a0.Grands, vi a0.Change, vi a0.Lasts]]), some (.row 7 [.agg [vi ((ix a1 a2.toNat).Kind), vi ((ix a1 a2.toNat).From), vi ((ix a1 a2.toNat).To), vt ((ix a1 a2.toNat).Grand), vt ((ix a1 a2.toNat).Place), vt ((ix a1 a2.toNat).Who), vi ((ix a1 a2.toNat).Deposit)]]), none, none, none, none, none, none, none, none, none, none, none, none, none, none] (by kernel_rfl) ?_
  refine RegD.op (OpD.valk (g := !((!((decide (0 ≤ y5.2)) && (decide (y5.2 ≤ (a2 - 1))))) || (((ix a1 y5.2.toNat).Kind) != (0 : Int)))) (v := eS 7 eItem a1) _ _ (cz (IG 61 (.mov (.t 1)) 60 false) (by kernel_rfl)) rfl (by kernel_rfl) (fun hg => (.cons rfl .nil))) ?_
  refine RegD.op (OpD.valk (g := !((!((decide (0 ≤ y5.2)) && (decide (y5.2 ≤ (a2 - 1))))) || (((ix a1 y5.2.toNat).Kind) != (0 : Int)))) (v := vi y5.2) _ _ (cz (IG 62 (.mov (.t 7)) 60 false) (by kernel_rfl)) rfl (by kernel_rfl) (fun hg => (.cons rfl .nil))) ?_
  refine cK h fun c10 h => ?_
  refine RegD.op (OpD.valg (g := !((!((decide (0 ≤ y5.2)) && (decide (y5.2 ≤ (a2 - 1))))) || (((ix a1 y5.2.toNat).Kind) != (0 : Int)))) (v := .fptr 7 (List.map eItem a1) y5.2.toNat 0) _ _ (cz (IG 63 (.iaddr 7 (.t 61) (.t 62)) 60 false) (by kernel_rfl)) rfl (fun hg => (ok_iaddr_m (j := y5.2.toNat) rfl rfl (inB_to (gor c10 hg)) (inB_lt (gor c10 hg)))) (fun hg => (.cons hg (.cons hg .nil)))) ?_
  refine RegD.op (OpD.valk (g := !((!((decide (0 ≤ y5.2)) && (decide (y5.2 ≤ (a2 - 1))))) || (((ix a1 y5.2.toNat).Kind) != (0 : Int)))) (v := .fptr 7 (List.map eItem a1) y5.2.toNat 3) _ _ (cz (IG 64 (.faddr 3 (.t 63)) 60 false) (by kernel_rfl)) rfl (by kernel_rfl) (fun hg => (.cons hg .nil))) ?_
  refine cK h fun c11 h => ?_
  refine RegD.op (OpD.valg (g := !((!((decide (0 ≤ y5.2)) && (decide (y5.2 ≤ (a2 - 1))))) || (((ix a1 y5.2.toNat).Kind) != (0 : Int)))) (v := vt ((ix a1 y5.2.toNat).Grand)) _ _ (cz (IG 65 (.load false 1 (.t 64)) 60 false) (by kernel_rfl)) rfl (fun hg => (ok_load_fm (v := vt ((ix a1 y5.2.toNat).Grand)) rfl (gor c11 hg) rfl)) (fun hg => (.cons hg .nil))) ?_
  refine RegD.op (OpD.valk (g := !((!((decide (0 ≤ y5.2)) && (decide (y5.2 ≤ (a2 - 1))))) || (((ix a1 y5.2.toNat).Kind) != (0 : Int)))) (v := .ptr 1 0 3) _ _ (cz (IG 66 (.faddr 3 (.t 9)) 60 false) (by kernel_rfl)) rfl (by kernel_rfl) (fun hg => (.cons rfl .nil))) ?_
  refine RegD.op (OpD.valk (g := !((!((decide (0 ≤ y5.2)) && (decide (y5.2 ≤ (a2 - 1))))) || (((ix a1 y5.2.toNat).Kind) != (0 : Int)))) (v := vt ((ix a1 a2.toNat).Grand)) _ _ (cz (IG 67 (.load false 1 (.t 66)) 60 false) (by kernel_rfl)) rfl (by kernel_rfl) (fun hg => (.cons hg .nil))) ?_
  refine RegD.op (OpD.valk (g := !((!((decide (0 ≤ y5.2)) && (decide (y5.2 ≤ (a2 - 1))))) || (((ix a1 y5.2.toNat).Kind) != (0 : Int)))) (v := vb (!(((ix a1 y5.2.toNat).Grand) == ((ix a1 a2.toNat).Grand)))) _ _ (cz (IG 68 (.bin .neq false (.t 65) (.t 67)) 60 false) (by kernel_rfl)) rfl (by kernel_rfl) (fun hg => (.cons hg (.cons hg .nil)))) ?_
  refine RegD.op (OpD.or (cz (I0 69 (.pick (.t 60) (.c (.p (.bool true))) (.t 68))) (by kernel_rfl)) rfl rfl (by first | exact hokO1 | exact hokO0 | simp)) ?_
  refine RegD.run 1 [(70, vb (((!((decide (0 ≤ y5.2)) && (decide (y5.2 ≤ (a2 - 1))))) || (((ix a1 y5.2.toNat).Kind) != (0 : Int))) || (!(((ix a1 y5.2.toNat).Grand) == ((ix a1 a2.toNat).Grand))))), (69, vb (((!((decide (0 ≤ y5.2)) && (decide (y5.2 ≤ (a2 - 1))))) || (((ix a1 y5.2.toNat).Kind) != (0 : Int))) || (!(((ix a1 y5.2.toNat).Grand) == ((ix a1 a2.toNat).Grand))))), (68, .cond (!((!((decide (0 ≤ y5.2)) && (decide (y5.2 ≤ (a2 - 1))))) || (((ix a1 y5.2.toNat).Kind) != (0 : Int)))) (vb (!(((ix a1 y5.2.toNat).Grand) == ((ix a1 a2.toNat).Grand))))), (67, .cond (!((!((decide (0 ≤ y5.2)) && (decide (y5.2 ≤ (a2 - 1))))) || (((ix a1 y5.2.toNat).Kind) != (0 : Int)))) (vt ((ix a1 a2.toNat).Grand))), (66, .cond (!((!((decide (0 ≤ y5.2)) && (decide (y5.2 ≤ (a2 - 1))))) || (((ix a1 y5.2.toNat).Kind) != (0 : Int)))) (.ptr 1 0 3)), (65, .cond (!((!((decide (0 ≤ y5.2)) && (decide (y5.2 ≤ (a2 - 1))))) || (((ix a1 y5.2.toNat).Kind) != (0 : Int)))) (vt ((ix a1 y5.2.toNat).Grand))), (64, .cond (!((!((decide (0 ≤ y5.2)) && (decide (y5.2 ≤ (a2 - 1))))) || (((ix a1 y5.2.toNat).Kind) != (0 : Int)))) (.fptr 7 (List.map eItem a1) y5.2.toNat 3)), (63, .cond (!((!((decide (0 ≤ y5.2)) && (decide (y5.2 ≤ (a2 - 1))))) || (((ix a1 y5.2.toNat).Kind) != (0 : Int)))) (.fptr 7 (List.map eItem a1) y5.2.toNat 0)), (62, .cond (!((!((decide (0 ≤ y5.2)) && (decide (y5.2 ≤ (a2 - 1))))) || (((ix a1 y5.2.toNat).Kind) != (0 : Int)))) (vi y5.2)), (61, .cond (!((!((decide (0 ≤ y5.2)) && (decide (y5.2 ≤ (a2 - 1))))) || (((ix a1 y5.2.toNat).Kind) != (0 : Int)))) (eS 7 eItem a1)), (60, vb ((!((decide (0 ≤ y5.2)) && (decide (y5.2 ≤ (a2 - 1))))) || (((ix a1 y5.2.toNat).Kind) != (0 : Int)))), (59, vb ((!((decide (0 ≤ y5.2)) && (decide (y5.2 ≤ (a2 - 1))))) || (((ix a1 y5.2.toNat).Kind) != (0 : Int)))), (58, .cond (!(!((decide (0 ≤ y5.2)) && (decide (y5.2 ≤ (a2 - 1)))))) (vb (((ix a1 y5.2.toNat).Kind) != (0 : Int)))), (57, .cond (!(!((decide (0 ≤ y5.2)) && (decide (y5.2 ≤ (a2 - 1)))))) (vi ((ix a1 y5.2.toNat).Kind))), (56, .cond (!(!((decide (0 ≤ y5.2)) && (decide (y5.2 ≤ (a2 - 1)))))) (.fptr 7 (List.map eItem a1) y5.2.toNat 0)), (55, .cond (!(!((decide (0 ≤ y5.2)) && (decide (y5.2 ≤ (a2 - 1)))))) (.fptr 7 (List.map eItem a1) y5.2.toNat 0)), (54, .cond (!(!((decide (0 ≤ y5.2)) && (decide (y5.2 ≤ (a2 - 1)))))) (vi y5.2)), (53, .cond (!(!((decide (0 ≤ y5.2)) && (decide (y5.2 ≤ (a2 - 1)))))) (eS 7 eItem a1)), (52, vb (!((decide (0 ≤ y5.2)) && (decide (y5.2 ≤ (a2 - 1)))))), (51, vb (!((decide (0 ≤ y5.2)) && (decide (y5.2 ≤ (a2 - 1)))))), (50, vb ((decide (0 ≤ y5.2)) && (decide (y5.2 ≤ (a2 - 1))))), (49, vi (a2 - 1)), (48, vi a2), (47, vi y5.2), (1, eS 7 eItem a1), (2, vi a2), (3, .ptr 0 0 0), (7, vi y5.2), (9, .ptr 1 0 0)] [some (.row 6 [.agg [eS 1 vt a0.Places, eS 1 vt a0.Technicians, eS 4 eRoad a0.Roads, eS 3 eGrand a0.Grands, vi a0.Change, vi a0.Lasts]]), some (.row 7 [.agg [vi ((ix a1 a2.toNat).Kind), vi ((ix a1 a2.toNat).From), vi ((ix a1 a2.toNat).To), vt ((ix a1 a2.toNat).Grand), vt ((ix a1 a2.toNat).Place), vt ((ix a1 a2.toNat).Who), vi ((ix a1 a2.toNat).Deposit)]]), none, none, none, none, none, none, none, none, none, none, none, none, none, none, none, none, none, none, none, none, none, none, none, none] (by kernel_rfl) ?_
  refine RegD.op (OpD.valk (g := !(((!((decide (0 ≤ y5.2)) && (decide (y5.2 ≤ (a2 - 1))))) || (((ix a1 y5.2.toNat).Kind) != (0 : Int))) || (!(((ix a1 y5.2.toNat).Grand) == ((ix a1 a2.toNat).Grand))))) (v := eS 7 eItem a1) _ _ (cz (IG 71 (.mov (.t 1)) 70 false) (by kernel_rfl)) rfl (by kernel_rfl) (fun hg => (.cons rfl .nil))) ?_
  refine RegD.op (OpD.valk (g := !(((!((decide (0 ≤ y5.2)) && (decide (y5.2 ≤ (a2 - 1))))) || (((ix a1 y5.2.toNat).Kind) != (0 : Int))) || (!(((ix a1 y5.2.toNat).Grand) == ((ix a1 a2.toNat).Grand))))) (v := vi y5.2) _ _ (cz (IG 72 (.mov (.t 7)) 70 false) (by kernel_rfl)) rfl (by kernel_rfl) (fun hg => (.cons rfl .nil))) ?_
  refine cK h fun c12 h => ?_
  refine RegD.op (OpD.valg (g := !(((!((decide (0 ≤ y5.2)) && (decide (y5.2 ≤ (a2 - 1))))) || (((ix a1 y5.2.toNat).Kind) != (0 : Int))) || (!(((ix a1 y5.2.toNat).Grand) == ((ix a1 a2.toNat).Grand))))) (v := .fptr 7 (List.map eItem a1) y5.2.toNat 0) _ _ (cz (IG 73 (.iaddr 7 (.t 71) (.t 72)) 70 false) (by kernel_rfl)) rfl (fun hg => (ok_iaddr_m (j := y5.2.toNat) rfl rfl (inB_to (gor c12 hg)) (inB_lt (gor c12 hg)))) (fun hg => (.cons hg (.cons hg .nil)))) ?_
  refine RegD.op (OpD.valk (g := !(((!((decide (0 ≤ y5.2)) && (decide (y5.2 ≤ (a2 - 1))))) || (((ix a1 y5.2.toNat).Kind) != (0 : Int))) || (!(((ix a1 y5.2.toNat).Grand) == ((ix a1 a2.toNat).Grand))))) (v := .fptr 7 (List.map eItem a1) y5.2.toNat 4) _ _ (cz (IG 74 (.faddr 4 (.t 73)) 70 false) (by kernel_rfl)) rfl (by kernel_rfl) (fun hg => (.cons hg .nil))) ?_
  refine cK h fun c13 h => ?_
  refine RegD.op (OpD.valg (g := !(((!((decide (0 ≤ y5.2)) && (decide (y5.2 ≤ (a2 - 1))))) || (((ix a1 y5.2.toNat).Kind) != (0 : Int))) || (!(((ix a1 y5.2.toNat).Grand) == ((ix a1 a2.toNat).Grand))))) (v := vt ((ix a1 y5.2.toNat).Place)) _ _ (cz (IG 75 (.load false 1 (.t 74)) 70 false) (by kernel_rfl)) rfl (fun hg => (ok_load_fm (v := vt ((ix a1 y5.2.toNat).Place)) rfl (gor c13 hg) rfl)) (fun hg => (.cons hg .nil))) ?_
  refine RegD.op (OpD.valk (g := !(((!((decide (0 ≤ y5.2)) && (decide (y5.2 ≤ (a2 - 1))))) || (((ix a1 y5.2.toNat).Kind) != (0 : Int))) || (!(((ix a1 y5.2.toNat).Grand) == ((ix a1 a2.toNat).Grand))))) (v := .ptr 1 0 4) _ _ (cz (IG 76 (.faddr 4 (.t 9)) 70 false) (by kernel_rfl)) rfl (by kernel_rfl) (fun hg => (.cons rfl .nil))) ?_
  refine RegD.op (OpD.valk (g := !(((!((decide (0 ≤ y5.2)) && (decide (y5.2 ≤ (a2 - 1))))) || (((ix a1 y5.2.toNat).Kind) != (0 : Int))) || (!(((ix a1 y5.2.toNat).Grand) == ((ix a1 a2.toNat).Grand))))) (v := vt ((ix a1 a2.toNat).Place)) _ _ (cz (IG 77 (.load false 1 (.t 76)) 70 false) (by kernel_rfl)) rfl (by kernel_rfl) (fun hg => (.cons hg .nil))) ?_
  refine RegD.op (OpD.valk (g := !(((!((decide (0 ≤ y5.2)) && (decide (y5.2 ≤ (a2 - 1))))) || (((ix a1 y5.2.toNat).Kind) != (0 : Int))) || (!(((ix a1 y5.2.toNat).Grand) == ((ix a1 a2.toNat).Grand))))) (v := vb (!(((ix a1 y5.2.toNat).Place) == ((ix a1 a2.toNat).Place)))) _ _ (cz (IG 78 (.bin .neq false (.t 75) (.t 77)) 70 false) (by kernel_rfl)) rfl (by kernel_rfl) (fun hg => (.cons hg (.cons hg .nil)))) ?_
  refine RegD.op (OpD.or (cz (I0 79 (.pick (.t 70) (.c (.p (.bool true))) (.t 78))) (by kernel_rfl)) rfl rfl (by first | exact hokO1 | exact hokO0 | simp)) ?_
  refine RegD.run 1 [(80, vb ((((!((decide (0 ≤ y5.2)) && (decide (y5.2 ≤ (a2 - 1))))) || (((ix a1 y5.2.toNat).Kind) != (0 : Int))) || (!(((ix a1 y5.2.toNat).Grand) == ((ix a1 a2.toNat).Grand)))) || (!(((ix a1 y5.2.toNat).Place) == ((ix a1 a2.toNat).Place))))), (79, vb ((((!((decide (0 ≤ y5.2)) && (decide (y5.2 ≤ (a2 - 1))))) || (((ix a1 y5.2.toNat).Kind) != (0 : Int))) || (!(((ix a1 y5.2.toNat).Grand) == ((ix a1 a2.toNat).Grand)))) || (!(((ix a1 y5.2.toNat).Place) == ((ix a1 a2.toNat).Place))))), (78, .cond (!(((!((decide (0 ≤ y5.2)) && (decide (y5.2 ≤ (a2 - 1))))) || (((ix a1 y5.2.toNat).Kind) != (0 : Int))) || (!(((ix a1 y5.2.toNat).Grand) == ((ix a1 a2.toNat).Grand))))) (vb (!(((ix a1 y5.2.toNat).Place) == ((ix a1 a2.toNat).Place))))), (77, .cond (!(((!((decide (0 ≤ y5.2)) && (decide (y5.2 ≤ (a2 - 1))))) || (((ix a1 y5.2.toNat).Kind) != (0 : Int))) || (!(((ix a1 y5.2.toNat).Grand) == ((ix a1 a2.toNat).Grand))))) (vt ((ix a1 a2.toNat).Place))), (76, .cond (!(((!((decide (0 ≤ y5.2)) && (decide (y5.2 ≤ (a2 - 1))))) || (((ix a1 y5.2.toNat).Kind) != (0 : Int))) || (!(((ix a1 y5.2.toNat).Grand) == ((ix a1 a2.toNat).Grand))))) (.ptr 1 0 4)), (75, .cond (!(((!((decide (0 ≤ y5.2)) && (decide (y5.2 ≤ (a2 - 1))))) || (((ix a1 y5.2.toNat).Kind) != (0 : Int))) || (!(((ix a1 y5.2.toNat).Grand) == ((ix a1 a2.toNat).Grand))))) (vt ((ix a1 y5.2.toNat).Place))), (74, .cond (!(((!((decide (0 ≤ y5.2)) && (decide (y5.2 ≤ (a2 - 1))))) || (((ix a1 y5.2.toNat).Kind) != (0 : Int))) || (!(((ix a1 y5.2.toNat).Grand) == ((ix a1 a2.toNat).Grand))))) (.fptr 7 (List.map eItem a1) y5.2.toNat 4)), (73, .cond (!(((!((decide (0 ≤ y5.2)) && (decide (y5.2 ≤ (a2 - 1))))) || (((ix a1 y5.2.toNat).Kind) != (0 : Int))) || (!(((ix a1 y5.2.toNat).Grand) == ((ix a1 a2.toNat).Grand))))) (.fptr 7 (List.map eItem a1) y5.2.toNat 0)), (72, .cond (!(((!((decide (0 ≤ y5.2)) && (decide (y5.2 ≤ (a2 - 1))))) || (((ix a1 y5.2.toNat).Kind) != (0 : Int))) || (!(((ix a1 y5.2.toNat).Grand) == ((ix a1 a2.toNat).Grand))))) (vi y5.2)), (71, .cond (!(((!((decide (0 ≤ y5.2)) && (decide (y5.2 ≤ (a2 - 1))))) || (((ix a1 y5.2.toNat).Kind) != (0 : Int))) || (!(((ix a1 y5.2.toNat).Grand) == ((ix a1 a2.toNat).Grand))))) (eS 7 eItem a1)), (70, vb (((!((decide (0 ≤ y5.2)) && (decide (y5.2 ≤ (a2 - 1))))) || (((ix a1 y5.2.toNat).Kind) != (0 : Int))) || (!(((ix a1 y5.2.toNat).Grand) == ((ix a1 a2.toNat).Grand))))), (69, vb (((!((decide (0 ≤ y5.2)) && (decide (y5.2 ≤ (a2 - 1))))) || (((ix a1 y5.2.toNat).Kind) != (0 : Int))) || (!(((ix a1 y5.2.toNat).Grand) == ((ix a1 a2.toNat).Grand))))), (68, .cond (!((!((decide (0 ≤ y5.2)) && (decide (y5.2 ≤ (a2 - 1))))) || (((ix a1 y5.2.toNat).Kind) != (0 : Int)))) (vb (!(((ix a1 y5.2.toNat).Grand) == ((ix a1 a2.toNat).Grand))))), (67, .cond (!((!((decide (0 ≤ y5.2)) && (decide (y5.2 ≤ (a2 - 1))))) || (((ix a1 y5.2.toNat).Kind) != (0 : Int)))) (vt ((ix a1 a2.toNat).Grand))), (66, .cond (!((!((decide (0 ≤ y5.2)) && (decide (y5.2 ≤ (a2 - 1))))) || (((ix a1 y5.2.toNat).Kind) != (0 : Int)))) (.ptr 1 0 3)), (65, .cond (!((!((decide (0 ≤ y5.2)) && (decide (y5.2 ≤ (a2 - 1))))) || (((ix a1 y5.2.toNat).Kind) != (0 : Int)))) (vt ((ix a1 y5.2.toNat).Grand))), (64, .cond (!((!((decide (0 ≤ y5.2)) && (decide (y5.2 ≤ (a2 - 1))))) || (((ix a1 y5.2.toNat).Kind) != (0 : Int)))) (.fptr 7 (List.map eItem a1) y5.2.toNat 3)), (63, .cond (!((!((decide (0 ≤ y5.2)) && (decide (y5.2 ≤ (a2 - 1))))) || (((ix a1 y5.2.toNat).Kind) != (0 : Int)))) (.fptr 7 (List.map eItem a1) y5.2.toNat 0)), (62, .cond (!((!((decide (0 ≤ y5.2)) && (decide (y5.2 ≤ (a2 - 1))))) || (((ix a1 y5.2.toNat).Kind) != (0 : Int)))) (vi y5.2)), (61, .cond (!((!((decide (0 ≤ y5.2)) && (decide (y5.2 ≤ (a2 - 1))))) || (((ix a1 y5.2.toNat).Kind) != (0 : Int)))) (eS 7 eItem a1)), (60, vb ((!((decide (0 ≤ y5.2)) && (decide (y5.2 ≤ (a2 - 1))))) || (((ix a1 y5.2.toNat).Kind) != (0 : Int)))), (59, vb ((!((decide (0 ≤ y5.2)) && (decide (y5.2 ≤ (a2 - 1))))) || (((ix a1 y5.2.toNat).Kind) != (0 : Int)))), (58, .cond (!(!((decide (0 ≤ y5.2)) && (decide (y5.2 ≤ (a2 - 1)))))) (vb (((ix a1 y5.2.toNat).Kind) != (0 : Int)))), (57, .cond (!(!((decide (0 ≤ y5.2)) && (decide (y5.2 ≤ (a2 - 1)))))) (vi ((ix a1 y5.2.toNat).Kind))), (56, .cond (!(!((decide (0 ≤ y5.2)) && (decide (y5.2 ≤ (a2 - 1)))))) (.fptr 7 (List.map eItem a1) y5.2.toNat 0)), (55, .cond (!(!((decide (0 ≤ y5.2)) && (decide (y5.2 ≤ (a2 - 1)))))) (.fptr 7 (List.map eItem a1) y5.2.toNat 0)), (54, .cond (!(!((decide (0 ≤ y5.2)) && (decide (y5.2 ≤ (a2 - 1)))))) (vi y5.2)), (53, .cond (!(!((decide (0 ≤ y5.2)) && (decide (y5.2 ≤ (a2 - 1)))))) (eS 7 eItem a1)), (52, vb (!((decide (0 ≤ y5.2)) && (decide (y5.2 ≤ (a2 - 1)))))), (51, vb (!((decide (0 ≤ y5.2)) && (decide (y5.2 ≤ (a2 - 1)))))), (50, vb ((decide (0 ≤ y5.2)) && (decide (y5.2 ≤ (a2 - 1))))), (49, vi (a2 - 1)), (48, vi a2), (47, vi y5.2), (1, eS 7 eItem a1), (2, vi a2), (3, .ptr 0 0 0), (7, vi y5.2), (9, .ptr 1 0 0)] [some (.row 6 [.agg [eS 1 vt a0.Places, eS 1 vt a0.Technicians, eS 4 eRoad a0.Roads, eS 3 eGrand a0.Grands, vi a0.Change, vi a0.Lasts]]), some (.row 7 [.agg [vi ((ix a1 a2.toNat).Kind), vi ((ix a1 a2.toNat).From), vi ((ix a1 a2.toNat).To), vt ((ix a1 a2.toNat).Grand), vt ((ix a1 a2.toNat).Place), vt ((ix a1 a2.toNat).Who), vi ((ix a1 a2.toNat).Deposit)]]), none, none, none, none, none, none, none, none, none, none, none, none, none, none, none, none, none, none, none, none, none, none, none, none, none, none, none, none, none, none, none, none, none, none] (by kernel_rfl) ?_
  refine RegD.op (OpD.valk (g := !((((!((decide (0 ≤ y5.2)) && (decide (y5.2 ≤ (a2 - 1))))) || (((ix a1 y5.2.toNat).Kind) != (0 : Int))) || (!(((ix a1 y5.2.toNat).Grand) == ((ix a1 a2.toNat).Grand)))) || (!(((ix a1 y5.2.toNat).Place) == ((ix a1 a2.toNat).Place))))) (v := eS 7 eItem a1) _ _ (cz (IG 81 (.mov (.t 1)) 80 false) (by kernel_rfl)) rfl (by kernel_rfl) (fun hg => (.cons rfl .nil))) ?_
  refine RegD.op (OpD.valk (g := !((((!((decide (0 ≤ y5.2)) && (decide (y5.2 ≤ (a2 - 1))))) || (((ix a1 y5.2.toNat).Kind) != (0 : Int))) || (!(((ix a1 y5.2.toNat).Grand) == ((ix a1 a2.toNat).Grand)))) || (!(((ix a1 y5.2.toNat).Place) == ((ix a1 a2.toNat).Place))))) (v := vi y5.2) _ _ (cz (IG 82 (.mov (.t 7)) 80 false) (by kernel_rfl)) rfl (by kernel_rfl) (fun hg => (.cons rfl .nil))) ?_
  refine cK h fun c14 h => ?_
  refine RegD.op (OpD.valg (g := !((((!((decide (0 ≤ y5.2)) && (decide (y5.2 ≤ (a2 - 1))))) || (((ix a1 y5.2.toNat).Kind) != (0 : Int))) || (!(((ix a1 y5.2.toNat).Grand) == ((ix a1 a2.toNat).Grand)))) || (!(((ix a1 y5.2.toNat).Place) == ((ix a1 a2.toNat).Place))))) (v := .fptr 7 (List.map eItem a1) y5.2.toNat 0) _ _ (cz (IG 83 (.iaddr 7 (.t 81) (.t 82)) 80 false) (by kernel_rfl)) rfl (fun hg => (ok_iaddr_m (j := y5.2.toNat) rfl rfl (inB_to (gor c14 hg)) (inB_lt (gor c14 hg)))) (fun hg => (.cons hg (.cons hg .nil)))) ?_
  refine RegD.op (OpD.valk (g := !((((!((decide (0 ≤ y5.2)) && (decide (y5.2 ≤ (a2 - 1))))) || (((ix a1 y5.2.toNat).Kind) != (0 : Int))) || (!(((ix a1 y5.2.toNat).Grand) == ((ix a1 a2.toNat).Grand)))) || (!(((ix a1 y5.2.toNat).Place) == ((ix a1 a2.toNat).Place))))) (v := .fptr 7 (List.map eItem a1) y5.2.toNat 2) _ _ (cz (IG 84 (.faddr 2 (.t 83)) 80 false) (by kernel_rfl)) rfl (by kernel_rfl) (fun hg => (.cons hg .nil))) ?_
  refine cK h fun c15 h => ?_
  refine RegD.op (OpD.valg (g := !((((!((decide (0 ≤ y5.2)) && (decide (y5.2 ≤ (a2 - 1))))) || (((ix a1 y5.2.toNat).Kind) != (0 : Int))) || (!(((ix a1 y5.2.toNat).Grand) == ((ix a1 a2.toNat).Grand)))) || (!(((ix a1 y5.2.toNat).Place) == ((ix a1 a2.toNat).Place))))) (v := vi ((ix a1 y5.2.toNat).To)) _ _ (cz (IG 85 (.load false 1 (.t 84)) 80 false) (by kernel_rfl)) rfl (fun hg => (ok_load_fm (v := vi ((ix a1 y5.2.toNat).To)) rfl (gor c15 hg) rfl)) (fun hg => (.cons hg .nil))) ?_
  refine RegD.op (OpD.valk (g := !((((!((decide (0 ≤ y5.2)) && (decide (y5.2 ≤ (a2 - 1))))) || (((ix a1 y5.2.toNat).Kind) != (0 : Int))) || (!(((ix a1 y5.2.toNat).Grand) == ((ix a1 a2.toNat).Grand)))) || (!(((ix a1 y5.2.toNat).Place) == ((ix a1 a2.toNat).Place))))) (v := .ptr 1 0 1) _ _ (cz (IG 86 (.faddr 1 (.t 9)) 80 false) (by kernel_rfl)) rfl (by kernel_rfl) (fun hg => (.cons rfl .nil))) ?_
  refine RegD.op (OpD.valk (g := !((((!((decide (0 ≤ y5.2)) && (decide (y5.2 ≤ (a2 - 1))))) || (((ix a1 y5.2.toNat).Kind) != (0 : Int))) || (!(((ix a1 y5.2.toNat).Grand) == ((ix a1 a2.toNat).Grand)))) || (!(((ix a1 y5.2.toNat).Place) == ((ix a1 a2.toNat).Place))))) (v := vi ((ix a1 a2.toNat).From)) _ _ (cz (IG 87 (.load false 1 (.t 86)) 80 false) (by kernel_rfl)) rfl (by kernel_rfl) (fun hg => (.cons hg .nil))) ?_
  refine RegD.op (OpD.valk (g := !((((!((decide (0 ≤ y5.2)) && (decide (y5.2 ≤ (a2 - 1))))) || (((ix a1 y5.2.toNat).Kind) != (0 : Int))) || (!(((ix a1 y5.2.toNat).Grand) == ((ix a1 a2.toNat).Grand)))) || (!(((ix a1 y5.2.toNat).Place) == ((ix a1 a2.toNat).Place))))) (v := vb (decide (((ix a1 a2.toNat).From) < ((ix a1 y5.2.toNat).To)))) _ _ (cz (IG 88 (.bin .gtr false (.t 85) (.t 87)) 80 false) (by kernel_rfl)) rfl (by kernel_rfl) (fun hg => (.cons hg (.cons hg .nil)))) ?_
  refine RegD.op (OpD.or (cz (I0 89 (.pick (.t 80) (.c (.p (.bool true))) (.t 88))) (by kernel_rfl)) rfl rfl (by first | exact hokO1 | exact hokO0 | simp)) ?_
  refine RegD.run 1 [(90, vb (((((!((decide (0 ≤ y5.2)) && (decide (y5.2 ≤ (a2 - 1))))) || (((ix a1 y5.2.toNat).Kind) != (0 : Int))) || (!(((ix a1 y5.2.toNat).Grand) == ((ix a1 a2.toNat).Grand)))) || (!(((ix a1 y5.2.toNat).Place) == ((ix a1 a2.toNat).Place)))) || (decide (((ix a1 a2.toNat).From) < ((ix a1 y5.2.toNat).To))))), (89, vb (((((!((decide (0 ≤ y5.2)) && (decide (y5.2 ≤ (a2 - 1))))) || (((ix a1 y5.2.toNat).Kind) != (0 : Int))) || (!(((ix a1 y5.2.toNat).Grand) == ((ix a1 a2.toNat).Grand)))) || (!(((ix a1 y5.2.toNat).Place) == ((ix a1 a2.toNat).Place)))) || (decide (((ix a1 a2.toNat).From) < ((ix a1 y5.2.toNat).To))))), (88, .cond (!((((!((decide (0 ≤ y5.2)) && (decide (y5.2 ≤ (a2 - 1))))) || (((ix a1 y5.2.toNat).Kind) != (0 : Int))) || (!(((ix a1 y5.2.toNat).Grand) == ((ix a1 a2.toNat).Grand)))) || (!(((ix a1 y5.2.toNat).Place) == ((ix a1 a2.toNat).Place))))) (vb (decide (((ix a1 a2.toNat).From) < ((ix a1 y5.2.toNat).To))))), (87, .cond (!((((!((decide (0 ≤ y5.2)) && (decide (y5.2 ≤ (a2 - 1))))) || (((ix a1 y5.2.toNat).Kind) != (0 : Int))) || (!(((ix a1 y5.2.toNat).Grand) == ((ix a1 a2.toNat).Grand)))) || (!(((ix a1 y5.2.toNat).Place) == ((ix a1 a2.toNat).Place))))) (vi ((ix a1 a2.toNat).From))), (86, .cond (!((((!((decide (0 ≤ y5.2)) && (decide (y5.2 ≤ (a2 - 1))))) || (((ix a1 y5.2.toNat).Kind) != (0 : Int))) || (!(((ix a1 y5.2.toNat).Grand) == ((ix a1 a2.toNat).Grand)))) || (!(((ix a1 y5.2.toNat).Place) == ((ix a1 a2.toNat).Place))))) (.ptr 1 0 1)), (85, .cond (!((((!((decide (0 ≤ y5.2)) && (decide (y5.2 ≤ (a2 - 1))))) || (((ix a1 y5.2.toNat).Kind) != (0 : Int))) || (!(((ix a1 y5.2.toNat).Grand) == ((ix a1 a2.toNat).Grand)))) || (!(((ix a1 y5.2.toNat).Place) == ((ix a1 a2.toNat).Place))))) (vi ((ix a1 y5.2.toNat).To))), (84, .cond (!((((!((decide (0 ≤ y5.2)) && (decide (y5.2 ≤ (a2 - 1))))) || (((ix a1 y5.2.toNat).Kind) != (0 : Int))) || (!(((ix a1 y5.2.toNat).Grand) == ((ix a1 a2.toNat).Grand)))) || (!(((ix a1 y5.2.toNat).Place) == ((ix a1 a2.toNat).Place))))) (.fptr 7 (List.map eItem a1) y5.2.toNat 2)), (83, .cond (!((((!((decide (0 ≤ y5.2)) && (decide (y5.2 ≤ (a2 - 1))))) || (((ix a1 y5.2.toNat).Kind) != (0 : Int))) || (!(((ix a1 y5.2.toNat).Grand) == ((ix a1 a2.toNat).Grand)))) || (!(((ix a1 y5.2.toNat).Place) == ((ix a1 a2.toNat).Place))))) (.fptr 7 (List.map eItem a1) y5.2.toNat 0)), (82, .cond (!((((!((decide (0 ≤ y5.2)) && (decide (y5.2 ≤ (a2 - 1))))) || (((ix a1 y5.2.toNat).Kind) != (0 : Int))) || (!(((ix a1 y5.2.toNat).Grand) == ((ix a1 a2.toNat).Grand)))) || (!(((ix a1 y5.2.toNat).Place) == ((ix a1 a2.toNat).Place))))) (vi y5.2)), (81, .cond (!((((!((decide (0 ≤ y5.2)) && (decide (y5.2 ≤ (a2 - 1))))) || (((ix a1 y5.2.toNat).Kind) != (0 : Int))) || (!(((ix a1 y5.2.toNat).Grand) == ((ix a1 a2.toNat).Grand)))) || (!(((ix a1 y5.2.toNat).Place) == ((ix a1 a2.toNat).Place))))) (eS 7 eItem a1)), (80, vb ((((!((decide (0 ≤ y5.2)) && (decide (y5.2 ≤ (a2 - 1))))) || (((ix a1 y5.2.toNat).Kind) != (0 : Int))) || (!(((ix a1 y5.2.toNat).Grand) == ((ix a1 a2.toNat).Grand)))) || (!(((ix a1 y5.2.toNat).Place) == ((ix a1 a2.toNat).Place))))), (79, vb ((((!((decide (0 ≤ y5.2)) && (decide (y5.2 ≤ (a2 - 1))))) || (((ix a1 y5.2.toNat).Kind) != (0 : Int))) || (!(((ix a1 y5.2.toNat).Grand) == ((ix a1 a2.toNat).Grand)))) || (!(((ix a1 y5.2.toNat).Place) == ((ix a1 a2.toNat).Place))))), (78, .cond (!(((!((decide (0 ≤ y5.2)) && (decide (y5.2 ≤ (a2 - 1))))) || (((ix a1 y5.2.toNat).Kind) != (0 : Int))) || (!(((ix a1 y5.2.toNat).Grand) == ((ix a1 a2.toNat).Grand))))) (vb (!(((ix a1 y5.2.toNat).Place) == ((ix a1 a2.toNat).Place))))), (77, .cond (!(((!((decide (0 ≤ y5.2)) && (decide (y5.2 ≤ (a2 - 1))))) || (((ix a1 y5.2.toNat).Kind) != (0 : Int))) || (!(((ix a1 y5.2.toNat).Grand) == ((ix a1 a2.toNat).Grand))))) (vt ((ix a1 a2.toNat).Place))), (76, .cond (!(((!((decide (0 ≤ y5.2)) && (decide (y5.2 ≤ (a2 - 1))))) || (((ix a1 y5.2.toNat).Kind) != (0 : Int))) || (!(((ix a1 y5.2.toNat).Grand) == ((ix a1 a2.toNat).Grand))))) (.ptr 1 0 4)), (75, .cond (!(((!((decide (0 ≤ y5.2)) && (decide (y5.2 ≤ (a2 - 1))))) || (((ix a1 y5.2.toNat).Kind) != (0 : Int))) || (!(((ix a1 y5.2.toNat).Grand) == ((ix a1 a2.toNat).Grand))))) (vt ((ix a1 y5.2.toNat).Place))), (74, .cond (!(((!((decide (0 ≤ y5.2)) && (decide (y5.2 ≤ (a2 - 1))))) || (((ix a1 y5.2.toNat).Kind) != (0 : Int))) || (!(((ix a1 y5.2.toNat).Grand) == ((ix a1 a2.toNat).Grand))))) (.fptr 7 (List.map eItem a1) y5.2.toNat 4)), (73, .cond (!(((!((decide (0 ≤ y5.2)) && (decide (y5.2 ≤ (a2 - 1))))) || (((ix a1 y5.2.toNat).Kind) != (0 : Int))) || (!(((ix a1 y5.2.toNat).Grand) == ((ix a1 a2.toNat).Grand))))) (.fptr 7 (List.map eItem a1) y5.2.toNat 0)), (72, .cond (!(((!((decide (0 ≤ y5.2)) && (decide (y5.2 ≤ (a2 - 1))))) || (((ix a1 y5.2.toNat).Kind) != (0 : Int))) || (!(((ix a1 y5.2.toNat).Grand) == ((ix a1 a2.toNat).Grand))))) (vi y5.2)), (71, .cond (!(((!((decide (0 ≤ y5.2)) && (decide (y5.2 ≤ (a2 - 1))))) || (((ix a1 y5.2.toNat).Kind) != (0 : Int))) || (!(((ix a1 y5.2.toNat).Grand) == ((ix a1 a2.toNat).Grand))))) (eS 7 eItem a1)), (70, vb (((!((decide (0 ≤ y5.2)) && (decide (y5.2 ≤ (a2 - 1))))) || (((ix a1 y5.2.toNat).Kind) != (0 : Int))) || (!(((ix a1 y5.2.toNat).Grand) == ((ix a1 a2.toNat).Grand))))), (69, vb (((!((decide (0 ≤ y5.2)) && (decide (y5.2 ≤ (a2 - 1))))) || (((ix a1 y5.2.toNat).Kind) != (0 : Int))) || (!(((ix a1 y5.2.toNat).Grand) == ((ix a1 a2.toNat).Grand))))), (68, .cond (!((!((decide (0 ≤ y5.2)) && (decide (y5.2 ≤ (a2 - 1))))) || (((ix a1 y5.2.toNat).Kind) != (0 : Int)))) (vb (!(((ix a1 y5.2.toNat).Grand) == ((ix a1 a2.toNat).Grand))))), (67, .cond (!((!((decide (0 ≤ y5.2)) && (decide (y5.2 ≤ (a2 - 1))))) || (((ix a1 y5.2.toNat).Kind) != (0 : Int)))) (vt ((ix a1 a2.toNat).Grand))), (66, .cond (!((!((decide (0 ≤ y5.2)) && (decide (y5.2 ≤ (a2 - 1))))) || (((ix a1 y5.2.toNat).Kind) != (0 : Int)))) (.ptr 1 0 3)), (65, .cond (!((!((decide (0 ≤ y5.2)) && (decide (y5.2 ≤ (a2 - 1))))) || (((ix a1 y5.2.toNat).Kind) != (0 : Int)))) (vt ((ix a1 y5.2.toNat).Grand))), (64, .cond (!((!((decide (0 ≤ y5.2)) && (decide (y5.2 ≤ (a2 - 1))))) || (((ix a1 y5.2.toNat).Kind) != (0 : Int)))) (.fptr 7 (List.map eItem a1) y5.2.toNat 3)), (63, .cond (!((!((decide (0 ≤ y5.2)) && (decide (y5.2 ≤ (a2 - 1))))) || (((ix a1 y5.2.toNat).Kind) != (0 : Int)))) (.fptr 7 (List.map eItem a1) y5.2.toNat 0)), (62, .cond (!((!((decide (0 ≤ y5.2)) && (decide (y5.2 ≤ (a2 - 1))))) || (((ix a1 y5.2.toNat).Kind) != (0 : Int)))) (vi y5.2)), (61, .cond (!((!((decide (0 ≤ y5.2)) && (decide (y5.2 ≤ (a2 - 1))))) || (((ix a1 y5.2.toNat).Kind) != (0 : Int)))) (eS 7 eItem a1)), (60, vb ((!((decide (0 ≤ y5.2)) && (decide (y5.2 ≤ (a2 - 1))))) || (((ix a1 y5.2.toNat).Kind) != (0 : Int)))), (59, vb ((!((decide (0 ≤ y5.2)) && (decide (y5.2 ≤ (a2 - 1))))) || (((ix a1 y5.2.toNat).Kind) != (0 : Int)))), (58, .cond (!(!((decide (0 ≤ y5.2)) && (decide (y5.2 ≤ (a2 - 1)))))) (vb (((ix a1 y5.2.toNat).Kind) != (0 : Int)))), (57, .cond (!(!((decide (0 ≤ y5.2)) && (decide (y5.2 ≤ (a2 - 1)))))) (vi ((ix a1 y5.2.toNat).Kind))), (56, .cond (!(!((decide (0 ≤ y5.2)) && (decide (y5.2 ≤ (a2 - 1)))))) (.fptr 7 (List.map eItem a1) y5.2.toNat 0)), (55, .cond (!(!((decide (0 ≤ y5.2)) && (decide (y5.2 ≤ (a2 - 1)))))) (.fptr 7 (List.map eItem a1) y5.2.toNat 0)), (54, .cond (!(!((decide (0 ≤ y5.2)) && (decide (y5.2 ≤ (a2 - 1)))))) (vi y5.2)), (53, .cond (!(!((decide (0 ≤ y5.2)) && (decide (y5.2 ≤ (a2 - 1)))))) (eS 7 eItem a1)), (52, vb (!((decide (0 ≤ y5.2)) && (decide (y5.2 ≤ (a2 - 1)))))), (51, vb (!((decide (0 ≤ y5.2)) && (decide (y5.2 ≤ (a2 - 1)))))), (50, vb ((decide (0 ≤ y5.2)) && (decide (y5.2 ≤ (a2 - 1))))), (49, vi (a2 - 1)), (48, vi a2), (47, vi y5.2), (1, eS 7 eItem a1), (2, vi a2), (3, .ptr 0 0 0), (7, vi y5.2), (9, .ptr 1 0 0)] [some (.row 6 [.agg [eS 1 vt a0.Places, eS 1 vt a0.Technicians, eS 4 eRoad a0.Roads, eS 3 eGrand a0.Grands, vi a0.Change, vi a0.Lasts]]), some (.row 7 [.agg [vi ((ix a1 a2.toNat).Kind), vi ((ix a1 a2.toNat).From), vi ((ix a1 a2.toNat).To), vt ((ix a1 a2.toNat).Grand), vt ((ix a1 a2.toNat).Place), vt ((ix a1 a2.toNat).Who), vi ((ix a1 a2.toNat).Deposit)]]), none, none, none, none, none, none, none, none, none, none, none, none, none, none, none, none, none, none, none, none, none, none, none, none, none, none, none, none, none, none, none, none, none, none, none, none, none, none, none, none, none, none, none, none] (by kernel_rfl) ?_
  refine RegD.op (OpD.valk (g := !(((((!((decide (0 ≤ y5.2)) && (decide (y5.2 ≤ (a2 - 1))))) || (((ix a1 y5.2.toNat).Kind) != (0 : Int))) || (!(((ix a1 y5.2.toNat).Grand) == ((ix a1 a2.toNat).Grand)))) || (!(((ix a1 y5.2.toNat).Place) == ((ix a1 a2.toNat).Place)))) || (decide (((ix a1 a2.toNat).From) < ((ix a1 y5.2.toNat).To))))) (v := .ptr 1 0 1) _ _ (cz (IG 91 (.faddr 1 (.t 9)) 90 false) (by kernel_rfl)) rfl (by kernel_rfl) (fun hg => (.cons rfl .nil))) ?_
  refine RegD.op (OpD.valk (g := !(((((!((decide (0 ≤ y5.2)) && (decide (y5.2 ≤ (a2 - 1))))) || (((ix a1 y5.2.toNat).Kind) != (0 : Int))) || (!(((ix a1 y5.2.toNat).Grand) == ((ix a1 a2.toNat).Grand)))) || (!(((ix a1 y5.2.toNat).Place) == ((ix a1 a2.toNat).Place)))) || (decide (((ix a1 a2.toNat).From) < ((ix a1 y5.2.toNat).To))))) (v := vi ((ix a1 a2.toNat).From)) _ _ (cz (IG 92 (.load false 1 (.t 91)) 90 false) (by kernel_rfl)) rfl (by kernel_rfl) (fun hg => (.cons hg .nil))) ?_
  refine RegD.op (OpD.valk (g := !(((((!((decide (0 ≤ y5.2)) && (decide (y5.2 ≤ (a2 - 1))))) || (((ix a1 y5.2.toNat).Kind) != (0 : Int))) || (!(((ix a1 y5.2.toNat).Grand) == ((ix a1 a2.toNat).Grand)))) || (!(((ix a1 y5.2.toNat).Place) == ((ix a1 a2.toNat).Place)))) || (decide (((ix a1 a2.toNat).From) < ((ix a1 y5.2.toNat).To))))) (v := eS 7 eItem a1) _ _ (cz (IG 93 (.mov (.t 1)) 90 false) (by kernel_rfl)) rfl (by kernel_rfl) (fun hg => (.cons rfl .nil))) ?_
  refine RegD.op (OpD.valk (g := !(((((!((decide (0 ≤ y5.2)) && (decide (y5.2 ≤ (a2 - 1))))) || (((ix a1 y5.2.toNat).Kind) != (0 : Int))) || (!(((ix a1 y5.2.toNat).Grand) == ((ix a1 a2.toNat).Grand)))) || (!(((ix a1 y5.2.toNat).Place) == ((ix a1 a2.toNat).Place)))) || (decide (((ix a1 a2.toNat).From) < ((ix a1 y5.2.toNat).To))))) (v := vi y5.2) _ _ (cz (IG 94 (.mov (.t 7)) 90 false) (by kernel_rfl)) rfl (by kernel_rfl) (fun hg => (.cons rfl .nil))) ?_
  refine cK h fun c16 h => ?_
  refine RegD.op (OpD.valg (g := !(((((!((decide (0 ≤ y5.2)) && (decide (y5.2 ≤ (a2 - 1))))) || (((ix a1 y5.2.toNat).Kind) != (0 : Int))) || (!(((ix a1 y5.2.toNat).Grand) == ((ix a1 a2.toNat).Grand)))) || (!(((ix a1 y5.2.toNat).Place) == ((ix a1 a2.toNat).Place)))) || (decide (((ix a1 a2.toNat).From) < ((ix a1 y5.2.toNat).To))))) (v := .fptr 7 (List.map eItem a1) y5.2.toNat 0) _ _ (cz (IG 95 (.iaddr 7 (.t 93) (.t 94)) 90 false) (by kernel_rfl)) rfl (fun hg => (ok_iaddr_m (j := y5.2.toNat) rfl rfl (inB_to (gor c16 hg)) (inB_lt (gor c16 hg)))) (fun hg => (.cons hg (.cons hg .nil)))) ?_
  refine RegD.op (OpD.valk (g := !(((((!((decide (0 ≤ y5.2)) && (decide (y5.2 ≤ (a2 - 1))))) || (((ix a1 y5.2.toNat).Kind) != (0 : Int))) || (!(((ix a1 y5.2.toNat).Grand) == ((ix a1 a2.toNat).Grand)))) || (!(((ix a1 y5.2.toNat).Place) == ((ix a1 a2.toNat).Place)))) || (decide (((ix a1 a2.toNat).From) < ((ix a1 y5.2.toNat).To))))) (v := .fptr 7 (List.map eItem a1) y5.2.toNat 2) _ _ (cz (IG 96 (.faddr 2 (.t 95)) 90 false) (by kernel_rfl)) rfl (by kernel_rfl) (fun hg => (.cons hg .nil))) ?_
  refine cK h fun c17 h => ?_
  refine RegD.op (OpD.valg (g := !(((((!((decide (0 ≤ y5.2)) && (decide (y5.2 ≤ (a2 - 1))))) || (((ix a1 y5.2.toNat).Kind) != (0 : Int))) || (!(((ix a1 y5.2.toNat).Grand) == ((ix a1 a2.toNat).Grand)))) || (!(((ix a1 y5.2.toNat).Place) == ((ix a1 a2.toNat).Place)))) || (decide (((ix a1 a2.toNat).From) < ((ix a1 y5.2.toNat).To))))) (v := vi ((ix a1 y5.2.toNat).To)) _ _ (cz (IG 97 (.load false 1 (.t 96)) 90 false) (by kernel_rfl)) rfl (fun hg => (ok_load_fm (v := vi ((ix a1 y5.2.toNat).To)) rfl (gor c17 hg) rfl)) (fun hg => (.cons hg .nil))) ?_
  refine cK h fun c18 h => ?_
  refine RegD.op (OpD.valg (g := !(((((!((decide (0 ≤ y5.2)) && (decide (y5.2 ≤ (a2 - 1))))) || (((ix a1 y5.2.toNat).Kind) != (0 : Int))) || (!(((ix a1 y5.2.toNat).Grand) == ((ix a1 a2.toNat).Grand)))) || (!(((ix a1 y5.2.toNat).Place) == ((ix a1 a2.toNat).Place)))) || (decide (((ix a1 a2.toNat).From) < ((ix a1 y5.2.toNat).To))))) (v := vi (((ix a1 a2.toNat).From) - ((ix a1 y5.2.toNat).To))) _ _ (cz (IG 98 (.bin .sub false (.t 92) (.t 97)) 90 false) (by kernel_rfl)) rfl (fun hg => (r_sub rfl rfl (gor c18 hg))) (fun hg => (.cons hg (.cons hg .nil)))) ?_
  refine RegD.op (OpD.valk (g := !(((((!((decide (0 ≤ y5.2)) && (decide (y5.2 ≤ (a2 - 1))))) || (((ix a1 y5.2.toNat).Kind) != (0 : Int))) || (!(((ix a1 y5.2.toNat).Grand) == ((ix a1 a2.toNat).Grand)))) || (!(((ix a1 y5.2.toNat).Place) == ((ix a1 a2.toNat).Place)))) || (decide (((ix a1 a2.toNat).From) < ((ix a1 y5.2.toNat).To))))) (v := .ptr 0 0 5) _ _ (cz (IG 99 (.faddr 5 (.t 3)) 90 false) (by kernel_rfl)) rfl (by kernel_rfl) (fun hg => (.cons rfl .nil))) ?_
  refine RegD.op (OpD.valk (g := !(((((!((decide (0 ≤ y5.2)) && (decide (y5.2 ≤ (a2 - 1))))) || (((ix a1 y5.2.toNat).Kind) != (0 : Int))) || (!(((ix a1 y5.2.toNat).Grand) == ((ix a1 a2.toNat).Grand)))) || (!(((ix a1 y5.2.toNat).Place) == ((ix a1 a2.toNat).Place)))) || (decide (((ix a1 a2.toNat).From) < ((ix a1 y5.2.toNat).To))))) (v := vi a0.Lasts) _ _ (cz (IG 100 (.load false 1 (.t 99)) 90 false) (by kernel_rfl)) rfl (by kernel_rfl) (fun hg => (.cons hg .nil))) ?_
  refine RegD.op (OpD.valk (g := !(((((!((decide (0 ≤ y5.2)) && (decide (y5.2 ≤ (a2 - 1))))) || (((ix a1 y5.2.toNat).Kind) != (0 : Int))) || (!(((ix a1 y5.2.toNat).Grand) == ((ix a1 a2.toNat).Grand)))) || (!(((ix a1 y5.2.toNat).Place) == ((ix a1 a2.toNat).Place)))) || (decide (((ix a1 a2.toNat).From) < ((ix a1 y5.2.toNat).To))))) (v := vb (decide (a0.Lasts < (((ix a1 a2.toNat).From) - ((ix a1 y5.2.toNat).To))))) _ _ (cz (IG 101 (.bin .gtr false (.t 98) (.t 100)) 90 false) (by kernel_rfl)) rfl (by kernel_rfl) (fun hg => (.cons hg (.cons hg .nil)))) ?_
  refine RegD.op (OpD.or (cz (I0 102 (.pick (.t 90) (.c (.p (.bool true))) (.t 101))) (by kernel_rfl)) rfl rfl (by first | exact hokO1 | exact hokO0 | simp)) ?_
  refine RegD.done rfl (by kernel_rfl) (S' := ⟨[(1, eS 7 eItem a1), (2, vi a2), (3, .ptr 0 0 0), (7, vi y5.2), (9, .ptr 1 0 0), (102, vb ((((((!((decide (0 ≤ y5.2)) && (decide (y5.2 ≤ (a2 - 1))))) || (((ix a1 y5.2.toNat).Kind) != (0 : Int))) || (!(((ix a1 y5.2.toNat).Grand) == ((ix a1 a2.toNat).Grand)))) || (!(((ix a1 y5.2.toNat).Place) == ((ix a1 a2.toNat).Place)))) || (decide (((ix a1 a2.toNat).From) < ((ix a1 y5.2.toNat).To)))) || (decide (a0.Lasts < (((ix a1 a2.toNat).From) - ((ix a1 y5.2.toNat).To))))))], [some (.row 6 [.agg [eS 1 vt a0.Places, eS 1 vt a0.Technicians, eS 4 eRoad a0.Roads, eS 3 eGrand a0.Grands, vi a0.Change, vi a0.Lasts]]), some (.row 7 [.agg [vi ((ix a1 a2.toNat).Kind), vi ((ix a1 a2.toNat).From), vi ((ix a1 a2.toNat).To), vt ((ix a1 a2.toNat).Grand), vt ((ix a1 a2.toNat).Place), vt ((ix a1 a2.toNat).Who), vi ((ix a1 a2.toNat).Deposit)]])]⟩) (sc [0, 1] (by decide) (by kernel_rfl) (.cons rfl (.cons rfl .nil)) rfl rfl) ?_
  refine TriE.cond (b := (((((!((decide (0 ≤ y5.2)) && (decide (y5.2 ≤ (a2 - 1))))) || (((ix a1 y5.2.toNat).Kind) != (0 : Int))) || (!(((ix a1 y5.2.toNat).Grand) == ((ix a1 a2.toNat).Grand)))) || (!(((ix a1 y5.2.toNat).Place) == ((ix a1 a2.toNat).Place)))) || (decide (((ix a1 a2.toNat).From) < ((ix a1 y5.2.toNat).To)))) || (decide (a0.Lasts < (((ix a1 a2.toNat).From) - ((ix a1 y5.2.toNat).To))))) rfl (fun c19 => ?_) (fun c19 => ?_)
  · have h := cond_t h c19
    refine TriE.seq ?_
    refine TriE.run [(6, vb false)] [some (.row 6 [.agg [eS 1 vt a0.Places, eS 1 vt a0.Technicians, eS 4 eRoad a0.Roads, eS 3 eGrand a0.Grands, vi a0.Change, vi a0.Lasts]]), some (.row 7 [.agg [vi ((ix a1 a2.toNat).Kind), vi ((ix a1 a2.toNat).From), vi ((ix a1 a2.toNat).To), vt ((ix a1 a2.toNat).Grand), vt ((ix a1 a2.toNat).Place), vt ((ix a1 a2.toNat).Who), vi ((ix a1 a2.toNat).Deposit)]])] (by kernel_rfl) ?_
    refine TriE.ret ?_
    have h := Option.some.inj h
    subst h
    exact DoneS.ret (S' := ⟨[(6, vb false)], []⟩) (sc [] (by decide) (by kernel_rfl) ObRen.nil rfl rfl) rfl rfl
  have h := cond_f h c19
  refine TriE.skip ?_
  refine TriE.seq ?_
  refine TriE.run [(1, eS 7 eItem a1), (2, vi a2), (3, .ptr 0 0 0), (7, vi y5.2), (9, .ptr 1 0 0), (10, .emp)] [some (.row 6 [.agg [eS 1 vt a0.Places, eS 1 vt a0.Technicians, eS 4 eRoad a0.Roads, eS 3 eGrand a0.Grands, vi a0.Change, vi a0.Lasts]]), some (.row 7 [.agg [vi ((ix a1 a2.toNat).Kind), vi ((ix a1 a2.toNat).From), vi ((ix a1 a2.toNat).To), vt ((ix a1 a2.toNat).Grand), vt ((ix a1 a2.toNat).Place), vt ((ix a1 a2.toNat).Who), vi ((ix a1 a2.toNat).Deposit)]])] (by kernel_rfl) ?_
  refine TriE.seqK h (fun (v11 : (List Item)) => St.mk [(3, .ptr 0 0 0), (9, .ptr 1 0 0), (10, .own 2 0 v11.length)] [some (.row 6 [.agg [eS 1 vt a0.Places, eS 1 vt a0.Technicians, eS 4 eRoad a0.Roads, eS 3 eGrand a0.Grands, vi a0.Change, vi a0.Lasts]]), some (.row 7 [.agg [vi ((ix a1 a2.toNat).Kind), vi ((ix a1 a2.toNat).From), vi ((ix a1 a2.toNat).To), vt ((ix a1 a2.toNat).Grand), vt ((ix a1 a2.toNat).Place), vt ((ix a1 a2.toNat).Who), vi ((ix a1 a2.toNat).Deposit)]]), some (.row 7 (List.map eItem v11))]) ?_ ?_
  · rintro v11 h
    show TriE _ _ _ _ _ (St.mk [(3, .ptr 0 0 0), (9, .ptr 1 0 0), (10, .own 2 0 v11.length)] [some (.row 6 [.agg [eS 1 vt a0.Places, eS 1 vt a0.Technicians, eS 4 eRoad a0.Roads, eS 3 eGrand a0.Grands, vi a0.Change, vi a0.Lasts]]), some (.row 7 [.agg [vi ((ix a1 a2.toNat).Kind), vi ((ix a1 a2.toNat).From), vi ((ix a1 a2.toNat).To), vt ((ix a1 a2.toNat).Grand), vt ((ix a1 a2.toNat).Place), vt ((ix a1 a2.toNat).Who), vi ((ix a1 a2.toNat).Deposit)]]), some (.row 7 (List.map eItem v11))]) _
    refine TriE.seq ?_
    refine TriE.seq ?_
    refine TriE.regJ ?_
    refine RegJ.run 2 [(3, .ptr 0 0 0), (9, .ptr 1 0 0), (10, .own 2 0 v11.length), (161, .agg [eS 1 vt a0.Places, eS 1 vt a0.Technicians, eS 4 eRoad a0.Roads, eS 3 eGrand a0.Grands, vi a0.Change, vi a0.Lasts]), (162, .own 2 0 v11.length)] [some (.row 6 [.agg [eS 1 vt a0.Places, eS 1 vt a0.Technicians, eS 4 eRoad a0.Roads, eS 3 eGrand a0.Grands, vi a0.Change, vi a0.Lasts]]), some (.row 7 [.agg [vi ((ix a1 a2.toNat).Kind), vi ((ix a1 a2.toNat).From), vi ((ix a1 a2.toNat).To), vt ((ix a1 a2.toNat).Grand), vt ((ix a1 a2.toNat).Place), vt ((ix a1 a2.toNat).Who), vi ((ix a1 a2.toNat).Deposit)]]), some (.row 7 (List.map eItem v11))] (by kernel_rfl) ?_
    refine bK h fun y12 hy12 h => ?_
    refine RegJ.op (Op1.call (y' := .tup [vi y12.2, vi y12.1]) (obx := [some (.row 7 (List.map eItem v11))]) (oby := [some (.row 7 (List.map eItem v11))]) (ob2 := [some (.row 6 [.agg [eS 1 vt a0.Places, eS 1 vt a0.Technicians, eS 4 eRoad a0.Roads, eS 3 eGrand a0.Grands, vi a0.Change, vi a0.Lasts]]), some (.row 7 [.agg [vi ((ix a1 a2.toNat).Kind), vi ((ix a1 a2.toNat).From), vi ((ix a1 a2.toNat).To), vt ((ix a1 a2.toNat).Grand), vt ((ix a1 a2.toNat).Place), vt ((ix a1 a2.toNat).Who), vi ((ix a1 a2.toNat).Deposit)]]), some (.row 7 (List.map eItem v11))]) _ _ (cz (I0 163 (.call 22 [(.t 161), (.t 162)])) (by kernel_rfl)) rfl (diary_Accept_2_ok n a0 v11 y12 hy12) [2] (by kernel_rfl) (.cons rfl (.cons rfl (.cons rfl .nil))) (by kernel_rfl) (by kernel_rfl) (.same (row_ren eItem_frz _ _ _) .nil) (by kernel_rfl) (.same (row_ren eItem_frz _ _ _) .nil) (by kernel_rfl)) ?_
    refine jrd 5 [(3, .ptr 0 0 0), (9, .ptr 1 0 0), (10, .own 2 0 v11.length), (13, vi y12.1)] [some (.row 6 [.agg [eS 1 vt a0.Places, eS 1 vt a0.Technicians, eS 4 eRoad a0.Roads, eS 3 eGrand a0.Grands, vi a0.Change, vi a0.Lasts]]), some (.row 7 [.agg [vi ((ix a1 a2.toNat).Kind), vi ((ix a1 a2.toNat).From), vi ((ix a1 a2.toNat).To), vt ((ix a1 a2.toNat).Grand), vt ((ix a1 a2.toNat).Place), vt ((ix a1 a2.toNat).Who), vi ((ix a1 a2.toNat).Deposit)]]), some (.row 7 (List.map eItem v11))] (by kernel_rfl) rfl ?_
    refine TriE.seq ?_
    refine TriE.run [(3, .ptr 0 0 0), (9, .ptr 1 0 0), (10, .own 2 0 v11.length), (167, vb (y12.1 != (0 : Int)))] [some (.row 6 [.agg [eS 1 vt a0.Places, eS 1 vt a0.Technicians, eS 4 eRoad a0.Roads, eS 3 eGrand a0.Grands, vi a0.Change, vi a0.Lasts]]), some (.row 7 [.agg [vi ((ix a1 a2.toNat).Kind), vi ((ix a1 a2.toNat).From), vi ((ix a1 a2.toNat).To), vt ((ix a1 a2.toNat).Grand), vt ((ix a1 a2.toNat).Place), vt ((ix a1 a2.toNat).Who), vi ((ix a1 a2.toNat).Deposit)]]), some (.row 7 (List.map eItem v11))] (by kernel_rfl) ?_
    refine TriE.cond (b := (y12.1 != (0 : Int))) rfl (fun c30 => ?_) (fun c30 => ?_)
    · have h := cond_t h c30
      refine TriE.seq ?_
      refine TriE.run [(6, vb false)] [some (.row 6 [.agg [eS 1 vt a0.Places, eS 1 vt a0.Technicians, eS 4 eRoad a0.Roads, eS 3 eGrand a0.Grands, vi a0.Change, vi a0.Lasts]]), some (.row 7 [.agg [vi ((ix a1 a2.toNat).Kind), vi ((ix a1 a2.toNat).From), vi ((ix a1 a2.toNat).To), vt ((ix a1 a2.toNat).Grand), vt ((ix a1 a2.toNat).Place), vt ((ix a1 a2.toNat).Who), vi ((ix a1 a2.toNat).Deposit)]]), some (.row 7 (List.map eItem v11))] (by kernel_rfl) ?_
      refine TriE.ret ?_
      have h := Option.some.inj h
      subst h
      exact DoneS.ret (S' := ⟨[(6, vb false)], []⟩) (sc [] (by decide) (by kernel_rfl) ObRen.nil rfl rfl) rfl rfl
    have h := cond_f h c30
    refine TriE.skip ?_
    refine TriE.seq ?_
    refine TriE.sees (Sees.less (fr' := [(3, .ptr 0 0 0), (9, .ptr 1 0 0), (10, .own 2 0 v11.length)]) (.cons rfl (.cons rfl (.cons rfl .nil)))) ?_
    refine TriE.draw (by kernel_rfl) ?_
    refine RegD.run 4 [(172, .own 6 0 1), (171, .agg [vi ((ix a1 a2.toNat).Kind), vi ((ix a1 a2.toNat).From), vi ((ix a1 a2.toNat).To), vt ((ix a1 a2.toNat).Grand), vt ((ix a1 a2.toNat).Place), vt ((ix a1 a2.toNat).Who), vi ((ix a1 a2.toNat).Deposit)]), (170, .own 2 0 v11.length), (169, .agg [eS 1 vt a0.Places, eS 1 vt a0.Technicians, eS 4 eRoad a0.Roads, eS 3 eGrand a0.Grands, vi a0.Change, vi a0.Lasts]), (3, .ptr 0 0 0), (9, .ptr 1 0 0), (10, .own 2 0 v11.length)] [some (.row 6 [.agg [eS 1 vt a0.Places, eS 1 vt a0.Technicians, eS 4 eRoad a0.Roads, eS 3 eGrand a0.Grands, vi a0.Change, vi a0.Lasts]]), some (.row 7 [.agg [vi ((ix a1 a2.toNat).Kind), vi ((ix a1 a2.toNat).From), vi ((ix a1 a2.toNat).To), vt ((ix a1 a2.toNat).Grand), vt ((ix a1 a2.toNat).Place), vt ((ix a1 a2.toNat).Who), vi ((ix a1 a2.toNat).Deposit)]]), some (.row 7 (List.map eItem v11)), none, none, none, some (.row 7 [.agg [vi ((ix a1 a2.toNat).Kind), vi ((ix a1 a2.toNat).From), vi ((ix a1 a2.toNat).To), vt ((ix a1 a2.toNat).Grand), vt ((ix a1 a2.toNat).Place), vt ((ix a1 a2.toNat).Who), vi ((ix a1 a2.toNat).Deposit)]])] (by kernel_rfl) ?_
    refine cK h fun c31 h => ?_
    refine de (.own 7 0 ((v11 ++ ([(ix a1 a2.toNat)] : List Item)).length)) [some (.row 6 [.agg [eS 1 vt a0.Places, eS 1 vt a0.Technicians, eS 4 eRoad a0.Roads, eS 3 eGrand a0.Grands, vi a0.Change, vi a0.Lasts]]), some (.row 7 [.agg [vi ((ix a1 a2.toNat).Kind), vi ((ix a1 a2.toNat).From), vi ((ix a1 a2.toNat).To), vt ((ix a1 a2.toNat).Grand), vt ((ix a1 a2.toNat).Place), vt ((ix a1 a2.toNat).Who), vi ((ix a1 a2.toNat).Deposit)]]), none, none, none, none, some (.row 7 [.agg [vi ((ix a1 a2.toNat).Kind), vi ((ix a1 a2.toNat).From), vi ((ix a1 a2.toNat).To), vt ((ix a1 a2.toNat).Grand), vt ((ix a1 a2.toNat).Place), vt ((ix a1 a2.toNat).Who), vi ((ix a1 a2.toNat).Deposit)]]), some (.row 7 (List.map eItem (v11 ++ ([(ix a1 a2.toNat)] : List Item))))] (cz (I0 173 (.app 7 80 (.t 170) (.t 172))) (by kernel_rfl)) (ok_app_own (l := v11) (l2 := ([(ix a1 a2.toNat)] : List Item)) (e := eItem) (u := .own 6 0 1) rfl rfl rfl rfl rfl c31) rfl rfl rfl ?_
    refine bK h fun y13 hy13 h => ?_
    refine RegD.op (OpD.call (y' := .tup [vi y13.2, vi y13.1]) (obx := [some (.row 7 (List.map eItem (v11 ++ ([(ix a1 a2.toNat)] : List Item))))]) (oby := [some (.row 7 (List.map eItem (v11 ++ ([(ix a1 a2.toNat)] : List Item))))]) (ob2 := [some (.row 6 [.agg [eS 1 vt a0.Places, eS 1 vt a0.Technicians, eS 4 eRoad a0.Roads, eS 3 eGrand a0.Grands, vi a0.Change, vi a0.Lasts]]), some (.row 7 [.agg [vi ((ix a1 a2.toNat).Kind), vi ((ix a1 a2.toNat).From), vi ((ix a1 a2.toNat).To), vt ((ix a1 a2.toNat).Grand), vt ((ix a1 a2.toNat).Place), vt ((ix a1 a2.toNat).Who), vi ((ix a1 a2.toNat).Deposit)]]), none, none, none, none, some (.row 7 [.agg [vi ((ix a1 a2.toNat).Kind), vi ((ix a1 a2.toNat).From), vi ((ix a1 a2.toNat).To), vt ((ix a1 a2.toNat).Grand), vt ((ix a1 a2.toNat).Place), vt ((ix a1 a2.toNat).Who), vi ((ix a1 a2.toNat).Deposit)]]), some (.row 7 (List.map eItem (v11 ++ ([(ix a1 a2.toNat)] : List Item)))), none]) (tch := []) 0 _ _ (cz (I0 174 (.call 22 [(.t 169), (.t 173)])) (by kernel_rfl)) (diary_Accept_2_ok n a0 (v11 ++ ([(ix a1 a2.toNat)] : List Item)) y13 hy13) [7] (by kernel_rfl) (.cons rfl (.cons rfl (.cons rfl .nil))) (by kernel_rfl) (by kernel_rfl) (.same (row_ren eItem_frz _ _ _) .nil) (by kernel_rfl) (.same (row_ren eItem_frz _ _ _) .nil) (by kernel_rfl) rfl (.inr ⟨rfl, rfl⟩)) ?_
    refine RegD.run 5 [(15, vi y13.1), (14, vi y13.2), (176, vi y13.1), (175, vi y13.2), (168, .tup [vi y13.2, vi y13.1]), (174, .tup [vi y13.2, vi y13.1]), (173, .own 7 0 ((v11 ++ ([(ix a1 a2.toNat)] : List Item)).length)), (172, .own 6 0 1), (171, .agg [vi ((ix a1 a2.toNat).Kind), vi ((ix a1 a2.toNat).From), vi ((ix a1 a2.toNat).To), vt ((ix a1 a2.toNat).Grand), vt ((ix a1 a2.toNat).Place), vt ((ix a1 a2.toNat).Who), vi ((ix a1 a2.toNat).Deposit)]), (170, .own 2 0 v11.length), (169, .agg [eS 1 vt a0.Places, eS 1 vt a0.Technicians, eS 4 eRoad a0.Roads, eS 3 eGrand a0.Grands, vi a0.Change, vi a0.Lasts]), (3, .ptr 0 0 0), (9, .ptr 1 0 0), (10, .own 2 0 v11.length)] [some (.row 6 [.agg [eS 1 vt a0.Places, eS 1 vt a0.Technicians, eS 4 eRoad a0.Roads, eS 3 eGrand a0.Grands, vi a0.Change, vi a0.Lasts]]), some (.row 7 [.agg [vi ((ix a1 a2.toNat).Kind), vi ((ix a1 a2.toNat).From), vi ((ix a1 a2.toNat).To), vt ((ix a1 a2.toNat).Grand), vt ((ix a1 a2.toNat).Place), vt ((ix a1 a2.toNat).Who), vi ((ix a1 a2.toNat).Deposit)]]), none, none, none, none, some (.row 7 [.agg [vi ((ix a1 a2.toNat).Kind), vi ((ix a1 a2.toNat).From), vi ((ix a1 a2.toNat).To), vt ((ix a1 a2.toNat).Grand), vt ((ix a1 a2.toNat).Place), vt ((ix a1 a2.toNat).Who), vi ((ix a1 a2.toNat).Deposit)]]), some (.row 7 (List.map eItem (v11 ++ ([(ix a1 a2.toNat)] : List Item)))), none, none, none, none, none, none] (by kernel_rfl) ?_
    refine RegD.done rfl (by kernel_rfl) (S' := ⟨[(10, .own 0 0 v11.length), (14, vi y13.2), (15, vi y13.1)], [none]⟩) (sc [2] (by decide) (by kernel_rfl) (.skip .nil) rfl rfl) ?_
    refine TriE.seq ?_
    refine TriE.regJ ?_
    refine RegJ.run 3 [(10, .own 0 0 v11.length), (14, vi y13.2), (179, vb (y13.1 == (26 : Int)))] [none] (by kernel_rfl) ?_
    refine RegJ.op (Op1.valk (g := (y13.1 == (26 : Int))) (v := vi y13.2) _ _ (cz (IG 180 (.mov (.t 14)) 179 true) (by kernel_rfl)) rfl (by kernel_rfl) (fun hg => (.cons rfl .nil))) ?_
    refine RegJ.op (Op1.valk (g := (y13.1 == (26 : Int))) (v := .own 0 0 v11.length) _ _ (cz (IG 181 (.mov (.t 10)) 179 true) (by kernel_rfl)) rfl (by kernel_rfl) (fun hg => (.cons rfl .nil))) ?_
    refine RegJ.op (Op1.valk (g := (y13.1 == (26 : Int))) (v := vi ((v11.length : Nat) : Int)) _ _ (cz (IG 182 (.len 0 (.t 181)) 179 true) (by kernel_rfl)) rfl (by kernel_rfl) (fun hg => (.cons hg .nil))) ?_
    refine RegJ.op (Op1.valk (g := (y13.1 == (26 : Int))) (v := vb (y13.2 == ((v11.length : Nat) : Int))) _ _ (cz (IG 183 (.bin .eql false (.t 180) (.t 182)) 179 true) (by kernel_rfl)) rfl (by kernel_rfl) (fun hg => (.cons hg (.cons hg .nil)))) ?_
    refine RegJ.op (Op1.and (cz (I0 184 (.pick (.t 179) (.t 183) (.c (.p (.bool false))))) (by kernel_rfl)) rfl rfl (by first | exact hokA1 | exact hokA0 | simp)) ?_
    refine jrd 1 [(6, vb ((y13.1 == (26 : Int)) && (y13.2 == ((v11.length : Nat) : Int))))] [none] (by kernel_rfl) rfl ?_
    refine TriE.ret ?_
    have h := Option.some.inj h
    subst h
    exact DoneS.ret (S' := ⟨[(6, vb ((y13.1 == (26 : Int)) && (y13.2 == ((v11.length : Nat) : Int))))], []⟩) (sc [] (by decide) (by kernel_rfl) ObRen.nil rfl rfl) rfl rfl
  intro k2 h
  refine TriE.seq ?_
  refine TriE.run [(1, eS 7 eItem a1), (2, vi a2), (3, .ptr 0 0 0), (7, vi y5.2), (9, .ptr 1 0 0), (10, .emp), (11, vi 0)] [some (.row 6 [.agg [eS 1 vt a0.Places, eS 1 vt a0.Technicians, eS 4 eRoad a0.Roads, eS 3 eGrand a0.Grands, vi a0.Change, vi a0.Lasts]]), some (.row 7 [.agg [vi ((ix a1 a2.toNat).Kind), vi ((ix a1 a2.toNat).From), vi ((ix a1 a2.toNat).To), vt ((ix a1 a2.toNat).Grand), vt ((ix a1 a2.toNat).Place), vt ((ix a1 a2.toNat).Who), vi ((ix a1 a2.toNat).Deposit)]])] (by kernel_rfl) ?_
  refine TriE.block ?_
  refine TriE.sees (S' := ⟨[(1, eS 7 eItem a1), (2, vi a2), (3, .ptr 0 0 0), (7, vi y5.2), (9, .ptr 1 0 0), (10, .own 2 0 ([] : List Item).length), (11, vi ((0 : Nat) : Int))], [some (.row 6 [.agg [eS 1 vt a0.Places, eS 1 vt a0.Technicians, eS 4 eRoad a0.Roads, eS 3 eGrand a0.Grands, vi a0.Change, vi a0.Lasts]]), some (.row 7 [.agg [vi ((ix a1 a2.toNat).Kind), vi ((ix a1 a2.toNat).From), vi ((ix a1 a2.toNat).To), vt ((ix a1 a2.toNat).Grand), vt ((ix a1 a2.toNat).Place), vt ((ix a1 a2.toNat).Who), vi ((ix a1 a2.toNat).Deposit)]]), some (.row 7 (List.map eItem ([] : List Item)))]⟩) (Sees.trans (Sees.co (fr' := [(1, eS 7 eItem a1), (2, vi a2), (3, .ptr 0 0 0), (7, vi y5.2), (9, .ptr 1 0 0), (10, .own 2 0 0), (11, vi 0)]) (ob' := [some (.row 6 [.agg [eS 1 vt a0.Places, eS 1 vt a0.Technicians, eS 4 eRoad a0.Roads, eS 3 eGrand a0.Grands, vi a0.Change, vi a0.Lasts]]), some (.row 7 [.agg [vi ((ix a1 a2.toNat).Kind), vi ((ix a1 a2.toNat).From), vi ((ix a1 a2.toNat).To), vt ((ix a1 a2.toNat).Grand), vt ((ix a1 a2.toNat).Place), vt ((ix a1 a2.toNat).Who), vi ((ix a1 a2.toNat).Deposit)]])]) (.cons .same (.cons .same (.cons .same (.cons .same (.cons .same (.cons .own (.cons .same .nil))))))) (.same (.same .nil)) 7) (sl (by kernel_rfl))) ?_
  refine TriE.loopN h (fun (t : (List Item) × Nat) => match t with | (v8, v9) => St.mk [(1, eS 7 eItem a1), (2, vi a2), (3, .ptr 0 0 0), (7, vi y5.2), (9, .ptr 1 0 0), (10, .own 2 0 v8.length), (11, vi ((v9 : Nat) : Int))] [some (.row 6 [.agg [eS 1 vt a0.Places, eS 1 vt a0.Technicians, eS 4 eRoad a0.Roads, eS 3 eGrand a0.Grands, vi a0.Change, vi a0.Lasts]]), some (.row 7 [.agg [vi ((ix a1 a2.toNat).Kind), vi ((ix a1 a2.toNat).From), vi ((ix a1 a2.toNat).To), vt ((ix a1 a2.toNat).Grand), vt ((ix a1 a2.toNat).Place), vt ((ix a1 a2.toNat).Who), vi ((ix a1 a2.toNat).Deposit)]]), some (.row 7 (List.map eItem v8))]) rfl ?_
  clear h
  rintro back ⟨v8, v9⟩ h
  dsimp only [agraffetop_TopTunedConcerts_L1] at h
  show TriE _ _ _ _ _ (St.mk [(1, eS 7 eItem a1), (2, vi a2), (3, .ptr 0 0 0), (7, vi y5.2), (9, .ptr 1 0 0), (10, .own 2 0 v8.length), (11, vi ((v9 : Nat) : Int))] [some (.row 6 [.agg [eS 1 vt a0.Places, eS 1 vt a0.Technicians, eS 4 eRoad a0.Roads, eS 3 eGrand a0.Grands, vi a0.Change, vi a0.Lasts]]), some (.row 7 [.agg [vi ((ix a1 a2.toNat).Kind), vi ((ix a1 a2.toNat).From), vi ((ix a1 a2.toNat).To), vt ((ix a1 a2.toNat).Grand), vt ((ix a1 a2.toNat).Place), vt ((ix a1 a2.toNat).Who), vi ((ix a1 a2.toNat).Deposit)]]), some (.row 7 (List.map eItem v8))]) _
  refine TriE.seq ?_
  refine TriE.seq ?_
  refine TriE.run [(1, eS 7 eItem a1), (2, vi a2), (3, .ptr 0 0 0), (7, vi y5.2), (9, .ptr 1 0 0), (10, .own 2 0 v8.length), (11, vi ((v9 : Nat) : Int)), (105, vb (decide (((v9 : Nat) : Int) < a2)))] [some (.row 6 [.agg [eS 1 vt a0.Places, eS 1 vt a0.Technicians, eS 4 eRoad a0.Roads, eS 3 eGrand a0.Grands, vi a0.Change, vi a0.Lasts]]), some (.row 7 [.agg [vi ((ix a1 a2.toNat).Kind), vi ((ix a1 a2.toNat).From), vi ((ix a1 a2.toNat).To), vt ((ix a1 a2.toNat).Grand), vt ((ix a1 a2.toNat).Place), vt ((ix a1 a2.toNat).Who), vi ((ix a1 a2.toNat).Deposit)]]), some (.row 7 (List.map eItem v8))] (by kernel_rfl) ?_
  refine TriE.cond (b := decide (((v9 : Nat) : Int) < a2)) rfl (fun c20 => ?_) (fun c20 => ?_)
  · have h := cond_t h c20
    refine TriE.skip ?_
    refine TriE.seqK h (fun (v10 : (List Item)) => St.mk [(1, eS 7 eItem a1), (2, vi a2), (3, .ptr 0 0 0), (7, vi y5.2), (9, .ptr 1 0 0), (11, vi ((v9 : Nat) : Int)), (10, .own 2 0 v10.length)] [some (.row 6 [.agg [eS 1 vt a0.Places, eS 1 vt a0.Technicians, eS 4 eRoad a0.Roads, eS 3 eGrand a0.Grands, vi a0.Change, vi a0.Lasts]]), some (.row 7 [.agg [vi ((ix a1 a2.toNat).Kind), vi ((ix a1 a2.toNat).From), vi ((ix a1 a2.toNat).To), vt ((ix a1 a2.toNat).Grand), vt ((ix a1 a2.toNat).Place), vt ((ix a1 a2.toNat).Who), vi ((ix a1 a2.toNat).Deposit)]]), some (.row 7 (List.map eItem v10))]) ?_ ?_
    · rintro v10 h
      show TriE _ _ _ _ _ (St.mk [(1, eS 7 eItem a1), (2, vi a2), (3, .ptr 0 0 0), (7, vi y5.2), (9, .ptr 1 0 0), (11, vi ((v9 : Nat) : Int)), (10, .own 2 0 v10.length)] [some (.row 6 [.agg [eS 1 vt a0.Places, eS 1 vt a0.Technicians, eS 4 eRoad a0.Roads, eS 3 eGrand a0.Grands, vi a0.Change, vi a0.Lasts]]), some (.row 7 [.agg [vi ((ix a1 a2.toNat).Kind), vi ((ix a1 a2.toNat).From), vi ((ix a1 a2.toNat).To), vt ((ix a1 a2.toNat).Grand), vt ((ix a1 a2.toNat).Place), vt ((ix a1 a2.toNat).Who), vi ((ix a1 a2.toNat).Deposit)]]), some (.row 7 (List.map eItem v10))]) _
      refine TriE.regJ ?_
      refine RegJ.run 1 [(1, eS 7 eItem a1), (2, vi a2), (3, .ptr 0 0 0), (7, vi y5.2), (9, .ptr 1 0 0), (10, .own 2 0 v10.length), (106, vi ((v9 : Nat) : Int))] [some (.row 6 [.agg [eS 1 vt a0.Places, eS 1 vt a0.Technicians, eS 4 eRoad a0.Roads, eS 3 eGrand a0.Grands, vi a0.Change, vi a0.Lasts]]), some (.row 7 [.agg [vi ((ix a1 a2.toNat).Kind), vi ((ix a1 a2.toNat).From), vi ((ix a1 a2.toNat).To), vt ((ix a1 a2.toNat).Grand), vt ((ix a1 a2.toNat).Place), vt ((ix a1 a2.toNat).Who), vi ((ix a1 a2.toNat).Deposit)]]), some (.row 7 (List.map eItem v10))] (by kernel_rfl) ?_
      refine cK h fun c29 h => ?_
      refine jv (vi ((v9 + 1 : Nat) : Int)) (cz (I0 107 (.bin .add false (.t 106) (.c (.p (.int .i64 1))))) (by kernel_rfl)) (r_addn (i := v9) (j := 1) rfl rfl c29) rfl ?_
      refine jrd 1 [(1, eS 7 eItem a1), (2, vi a2), (3, .ptr 0 0 0), (7, vi y5.2), (9, .ptr 1 0 0), (10, .own 2 0 v10.length), (11, vi ((v9 + 1 : Nat) : Int))] [some (.row 6 [.agg [eS 1 vt a0.Places, eS 1 vt a0.Technicians, eS 4 eRoad a0.Roads, eS 3 eGrand a0.Grands, vi a0.Change, vi a0.Lasts]]), some (.row 7 [.agg [vi ((ix a1 a2.toNat).Kind), vi ((ix a1 a2.toNat).From), vi ((ix a1 a2.toNat).To), vt ((ix a1 a2.toNat).Grand), vt ((ix a1 a2.toNat).Place), vt ((ix a1 a2.toNat).Who), vi ((ix a1 a2.toNat).Deposit)]]), some (.row 7 (List.map eItem v10))] (by kernel_rfl) rfl ?_
      exact Vs.intro (sl (by kernel_rfl)) ⟨(v10, v9 + 1), rfl, h⟩
    intro k1 h
    refine TriE.block ?_
    refine TriE.seq ?_
    refine TriE.seq ?_
    refine TriE.sees (Sees.less (fr' := [(1, eS 7 eItem a1), (2, vi a2), (3, .ptr 0 0 0), (7, vi y5.2), (9, .ptr 1 0 0), (10, .own 2 0 v8.length), (11, vi ((v9 : Nat) : Int))]) (.cons rfl (.cons rfl (.cons rfl (.cons rfl (.cons rfl (.cons rfl (.cons rfl .nil)))))))) ?_
    refine TriE.draw (by kernel_rfl) ?_
    refine RegD.run 4 [(111, vb (decide (y5.2 < ((v9 : Nat) : Int)))), (110, vb (decide (y5.2 < ((v9 : Nat) : Int)))), (109, vi y5.2), (108, vi ((v9 : Nat) : Int)), (1, eS 7 eItem a1), (2, vi a2), (3, .ptr 0 0 0), (7, vi y5.2), (9, .ptr 1 0 0), (10, .own 2 0 v8.length), (11, vi ((v9 : Nat) : Int))] [some (.row 6 [.agg [eS 1 vt a0.Places, eS 1 vt a0.Technicians, eS 4 eRoad a0.Roads, eS 3 eGrand a0.Grands, vi a0.Change, vi a0.Lasts]]), some (.row 7 [.agg [vi ((ix a1 a2.toNat).Kind), vi ((ix a1 a2.toNat).From), vi ((ix a1 a2.toNat).To), vt ((ix a1 a2.toNat).Grand), vt ((ix a1 a2.toNat).Place), vt ((ix a1 a2.toNat).Who), vi ((ix a1 a2.toNat).Deposit)]]), some (.row 7 (List.map eItem v8)), none, none, none, none] (by kernel_rfl) ?_
    refine RegD.op (OpD.valk (g := decide (y5.2 < ((v9 : Nat) : Int))) (v := eS 7 eItem a1) _ _ (cz (IG 112 (.mov (.t 1)) 111 true) (by kernel_rfl)) rfl (by kernel_rfl) (fun hg => (.cons rfl .nil))) ?_
    refine RegD.op (OpD.valk (g := decide (y5.2 < ((v9 : Nat) : Int))) (v := vi ((v9 : Nat) : Int)) _ _ (cz (IG 113 (.mov (.t 11)) 111 true) (by kernel_rfl)) rfl (by kernel_rfl) (fun hg => (.cons rfl .nil))) ?_
    refine cK h fun c21 h => ?_
    refine RegD.op (OpD.valg (g := decide (y5.2 < ((v9 : Nat) : Int))) (v := .fptr 7 (List.map eItem a1) v9 0) _ _ (cz (IG 114 (.iaddr 7 (.t 112) (.t 113)) 111 true) (by kernel_rfl)) rfl (fun hg => (ok_iaddr_m (j := v9) rfl rfl rfl (gor c21 hg))) (fun hg => (.cons hg (.cons hg .nil)))) ?_
    refine RegD.op (OpD.valk (g := decide (y5.2 < ((v9 : Nat) : Int))) (v := .fptr 7 (List.map eItem a1) v9 0) _ _ (cz (IG 115 (.faddr 0 (.t 114)) 111 true) (by kernel_rfl)) rfl (by kernel_rfl) (fun hg => (.cons hg .nil))) ?_
    refine cK h fun c22 h => ?_
    refine RegD.op (OpD.valg (g := decide (y5.2 < ((v9 : Nat) : Int))) (v := vi ((ix a1 v9).Kind)) _ _ (cz (IG 116 (.load false 1 (.t 115)) 111 true) (by kernel_rfl)) rfl (fun hg => (ok_load_fm (v := vi ((ix a1 v9).Kind)) rfl (gor c22 hg) rfl)) (fun hg => (.cons hg .nil))) ?_
    refine RegD.op (OpD.valk (g := decide (y5.2 < ((v9 : Nat) : Int))) (v := vb (((ix a1 v9).Kind) == (1 : Int))) _ _ (cz (IG 117 (.bin .eql false (.t 116) (.c (.p (.int .i64 1)))) 111 true) (by kernel_rfl)) rfl (by kernel_rfl) (fun hg => (.cons hg (.cons rfl .nil)))) ?_
    refine RegD.op (OpD.and (cz (I0 118 (.pick (.t 111) (.t 117) (.c (.p (.bool false))))) (by kernel_rfl)) rfl rfl (by first | exact hokA1 | exact hokA0 | simp)) ?_
    refine RegD.run 1 [(119, vb ((decide (y5.2 < ((v9 : Nat) : Int))) && (((ix a1 v9).Kind) == (1 : Int)))), (118, vb ((decide (y5.2 < ((v9 : Nat) : Int))) && (((ix a1 v9).Kind) == (1 : Int)))), (117, .cond (decide (y5.2 < ((v9 : Nat) : Int))) (vb (((ix a1 v9).Kind) == (1 : Int)))), (116, .cond (decide (y5.2 < ((v9 : Nat) : Int))) (vi ((ix a1 v9).Kind))), (115, .cond (decide (y5.2 < ((v9 : Nat) : Int))) (.fptr 7 (List.map eItem a1) v9 0)), (114, .cond (decide (y5.2 < ((v9 : Nat) : Int))) (.fptr 7 (List.map eItem a1) v9 0)), (113, .cond (decide (y5.2 < ((v9 : Nat) : Int))) (vi ((v9 : Nat) : Int))), (112, .cond (decide (y5.2 < ((v9 : Nat) : Int))) (eS 7 eItem a1)), (111, vb (decide (y5.2 < ((v9 : Nat) : Int)))), (110, vb (decide (y5.2 < ((v9 : Nat) : Int)))), (109, vi y5.2), (108, vi ((v9 : Nat) : Int)), (1, eS 7 eItem a1), (2, vi a2), (3, .ptr 0 0 0), (7, vi y5.2), (9, .ptr 1 0 0), (10, .own 2 0 v8.length), (11, vi ((v9 : Nat) : Int))] [some (.row 6 [.agg [eS 1 vt a0.Places, eS 1 vt a0.Technicians, eS 4 eRoad a0.Roads, eS 3 eGrand a0.Grands, vi a0.Change, vi a0.Lasts]]), some (.row 7 [.agg [vi ((ix a1 a2.toNat).Kind), vi ((ix a1 a2.toNat).From), vi ((ix a1 a2.toNat).To), vt ((ix a1 a2.toNat).Grand), vt ((ix a1 a2.toNat).Place), vt ((ix a1 a2.toNat).Who), vi ((ix a1 a2.toNat).Deposit)]]), some (.row 7 (List.map eItem v8)), none, none, none, none, none, none, none, none, none, none, none, none] (by kernel_rfl) ?_
    refine RegD.op (OpD.valk (g := (decide (y5.2 < ((v9 : Nat) : Int))) && (((ix a1 v9).Kind) == (1 : Int))) (v := eS 7 eItem a1) _ _ (cz (IG 120 (.mov (.t 1)) 119 true) (by kernel_rfl)) rfl (by kernel_rfl) (fun hg => (.cons rfl .nil))) ?_
    refine RegD.op (OpD.valk (g := (decide (y5.2 < ((v9 : Nat) : Int))) && (((ix a1 v9).Kind) == (1 : Int))) (v := vi ((v9 : Nat) : Int)) _ _ (cz (IG 121 (.mov (.t 11)) 119 true) (by kernel_rfl)) rfl (by kernel_rfl) (fun hg => (.cons rfl .nil))) ?_
    refine cK h fun c23 h => ?_
    refine RegD.op (OpD.valg (g := (decide (y5.2 < ((v9 : Nat) : Int))) && (((ix a1 v9).Kind) == (1 : Int))) (v := .fptr 7 (List.map eItem a1) v9 0) _ _ (cz (IG 122 (.iaddr 7 (.t 120) (.t 121)) 119 true) (by kernel_rfl)) rfl (fun hg => (ok_iaddr_m (j := v9) rfl rfl rfl (gor c23 hg))) (fun hg => (.cons hg (.cons hg .nil)))) ?_
    refine RegD.op (OpD.valk (g := (decide (y5.2 < ((v9 : Nat) : Int))) && (((ix a1 v9).Kind) == (1 : Int))) (v := .fptr 7 (List.map eItem a1) v9 3) _ _ (cz (IG 123 (.faddr 3 (.t 122)) 119 true) (by kernel_rfl)) rfl (by kernel_rfl) (fun hg => (.cons hg .nil))) ?_
    refine cK h fun c24 h => ?_
    refine RegD.op (OpD.valg (g := (decide (y5.2 < ((v9 : Nat) : Int))) && (((ix a1 v9).Kind) == (1 : Int))) (v := vt ((ix a1 v9).Grand)) _ _ (cz (IG 124 (.load false 1 (.t 123)) 119 true) (by kernel_rfl)) rfl (fun hg => (ok_load_fm (v := vt ((ix a1 v9).Grand)) rfl (gor c24 hg) rfl)) (fun hg => (.cons hg .nil))) ?_
    refine RegD.op (OpD.valk (g := (decide (y5.2 < ((v9 : Nat) : Int))) && (((ix a1 v9).Kind) == (1 : Int))) (v := .ptr 1 0 3) _ _ (cz (IG 125 (.faddr 3 (.t 9)) 119 true) (by kernel_rfl)) rfl (by kernel_rfl) (fun hg => (.cons rfl .nil))) ?_
    refine RegD.op (OpD.valk (g := (decide (y5.2 < ((v9 : Nat) : Int))) && (((ix a1 v9).Kind) == (1 : Int))) (v := vt ((ix a1 a2.toNat).Grand)) _ _ (cz (IG 126 (.load false 1 (.t 125)) 119 true) (by kernel_rfl)) rfl (by kernel_rfl) (fun hg => (.cons hg .nil))) ?_
    refine RegD.op (OpD.valk (g := (decide (y5.2 < ((v9 : Nat) : Int))) && (((ix a1 v9).Kind) == (1 : Int))) (v := vb (((ix a1 v9).Grand) == ((ix a1 a2.toNat).Grand))) _ _ (cz (IG 127 (.bin .eql false (.t 124) (.t 126)) 119 true) (by kernel_rfl)) rfl (by kernel_rfl) (fun hg => (.cons hg (.cons hg .nil)))) ?_
    refine RegD.op (OpD.and (cz (I0 128 (.pick (.t 119) (.t 127) (.c (.p (.bool false))))) (by kernel_rfl)) rfl rfl (by first | exact hokA1 | exact hokA0 | simp)) ?_
    refine RegD.done rfl (by kernel_rfl) (S' := ⟨[(1, eS 7 eItem a1), (2, vi a2), (3, .ptr 0 0 0), (7, vi y5.2), (9, .ptr 1 0 0), (10, .own 2 0 v8.length), (11, vi ((v9 : Nat) : Int)), (128, vb (((decide (y5.2 < ((v9 : Nat) : Int))) && (((ix a1 v9).Kind) == (1 : Int))) && (((ix a1 v9).Grand) == ((ix a1 a2.toNat).Grand))))], [some (.row 6 [.agg [eS 1 vt a0.Places, eS 1 vt a0.Technicians, eS 4 eRoad a0.Roads, eS 3 eGrand a0.Grands, vi a0.Change, vi a0.Lasts]]), some (.row 7 [.agg [vi ((ix a1 a2.toNat).Kind), vi ((ix a1 a2.toNat).From), vi ((ix a1 a2.toNat).To), vt ((ix a1 a2.toNat).Grand), vt ((ix a1 a2.toNat).Place), vt ((ix a1 a2.toNat).Who), vi ((ix a1 a2.toNat).Deposit)]]), some (.row 7 (List.map eItem v8))]⟩) (sc [0, 1, 2] (by decide) (by kernel_rfl) (.cons rfl (.cons (by kernel_rfl) (obRen_row eItem_frz (by kernel_rfl) .nil))) rfl rfl) ?_
    refine TriE.cond (b := ((decide (y5.2 < ((v9 : Nat) : Int))) && (((ix a1 v9).Kind) == (1 : Int))) && (((ix a1 v9).Grand) == ((ix a1 a2.toNat).Grand))) rfl (fun c25 => ?_) (fun c25 => ?_)
    · have h := cond_t h c25
      refine TriE.seq ?_
      refine TriE.run [(6, vb false)] [some (.row 6 [.agg [eS 1 vt a0.Places, eS 1 vt a0.Technicians, eS 4 eRoad a0.Roads, eS 3 eGrand a0.Grands, vi a0.Change, vi a0.Lasts]]), some (.row 7 [.agg [vi ((ix a1 a2.toNat).Kind), vi ((ix a1 a2.toNat).From), vi ((ix a1 a2.toNat).To), vt ((ix a1 a2.toNat).Grand), vt ((ix a1 a2.toNat).Place), vt ((ix a1 a2.toNat).Who), vi ((ix a1 a2.toNat).Deposit)]]), some (.row 7 (List.map eItem v8))] (by kernel_rfl) ?_
      refine TriE.ret ?_
      have h := Option.some.inj h
      subst h
      exact DoneS.ret (S' := ⟨[(6, vb false)], []⟩) (sc [] (by decide) (by kernel_rfl) ObRen.nil rfl rfl) rfl rfl
    have h := cond_f h c25
    refine TriE.skip ?_
    refine TriE.seq ?_
    refine TriE.sees (Sees.less (fr' := [(1, eS 7 eItem a1), (2, vi a2), (3, .ptr 0 0 0), (7, vi y5.2), (9, .ptr 1 0 0), (10, .own 2 0 v8.length), (11, vi ((v9 : Nat) : Int))]) (.cons rfl (.cons rfl (.cons rfl (.cons rfl (.cons rfl (.cons rfl (.cons rfl .nil)))))))) ?_
    refine TriE.draw (by kernel_rfl) ?_
    refine RegD.run 2 [(130, vi ((v9 : Nat) : Int)), (129, eS 7 eItem a1), (1, eS 7 eItem a1), (2, vi a2), (3, .ptr 0 0 0), (7, vi y5.2), (9, .ptr 1 0 0), (10, .own 2 0 v8.length), (11, vi ((v9 : Nat) : Int))] [some (.row 6 [.agg [eS 1 vt a0.Places, eS 1 vt a0.Technicians, eS 4 eRoad a0.Roads, eS 3 eGrand a0.Grands, vi a0.Change, vi a0.Lasts]]), some (.row 7 [.agg [vi ((ix a1 a2.toNat).Kind), vi ((ix a1 a2.toNat).From), vi ((ix a1 a2.toNat).To), vt ((ix a1 a2.toNat).Grand), vt ((ix a1 a2.toNat).Place), vt ((ix a1 a2.toNat).Who), vi ((ix a1 a2.toNat).Deposit)]]), some (.row 7 (List.map eItem v8)), none, none] (by kernel_rfl) ?_
    refine cK h fun c26 h => ?_
    refine dv (.fptr 7 (List.map eItem a1) v9 0) (cz (I0 131 (.iaddr 7 (.t 129) (.t 130))) (by kernel_rfl)) (ok_iaddr_m (j := v9) rfl rfl rfl c26) rfl ?_
    refine RegD.run 1 [(132, .fptr 7 (List.map eItem a1) v9 0), (131, .fptr 7 (List.map eItem a1) v9 0), (130, vi ((v9 : Nat) : Int)), (129, eS 7 eItem a1), (1, eS 7 eItem a1), (2, vi a2), (3, .ptr 0 0 0), (7, vi y5.2), (9, .ptr 1 0 0), (10, .own 2 0 v8.length), (11, vi ((v9 : Nat) : Int))] [some (.row 6 [.agg [eS 1 vt a0.Places, eS 1 vt a0.Technicians, eS 4 eRoad a0.Roads, eS 3 eGrand a0.Grands, vi a0.Change, vi a0.Lasts]]), some (.row 7 [.agg [vi ((ix a1 a2.toNat).Kind), vi ((ix a1 a2.toNat).From), vi ((ix a1 a2.toNat).To), vt ((ix a1 a2.toNat).Grand), vt ((ix a1 a2.toNat).Place), vt ((ix a1 a2.toNat).Who), vi ((ix a1 a2.toNat).Deposit)]]), some (.row 7 (List.map eItem v8)), none, none, none, none] (by kernel_rfl) ?_
    refine dv (vi ((ix a1 v9).Kind)) (cz (I0 133 (.load false 1 (.t 132))) (by kernel_rfl)) (ok_load_fm (v := vi ((ix a1 v9).Kind)) rfl c26 rfl) rfl ?_
    refine RegD.run 2 [(135, vb (((ix a1 v9).Kind) != (0 : Int))), (134, vb (((ix a1 v9).Kind) != (0 : Int))), (133, vi ((ix a1 v9).Kind)), (132, .fptr 7 (List.map eItem a1) v9 0), (131, .fptr 7 (List.map eItem a1) v9 0), (130, vi ((v9 : Nat) : Int)), (129, eS 7 eItem a1), (1, eS 7 eItem a1), (2, vi a2), (3, .ptr 0 0 0), (7, vi y5.2), (9, .ptr 1 0 0), (10, .own 2 0 v8.length), (11, vi ((v9 : Nat) : Int))] [some (.row 6 [.agg [eS 1 vt a0.Places, eS 1 vt a0.Technicians, eS 4 eRoad a0.Roads, eS 3 eGrand a0.Grands, vi a0.Change, vi a0.Lasts]]), some (.row 7 [.agg [vi ((ix a1 a2.toNat).Kind), vi ((ix a1 a2.toNat).From), vi ((ix a1 a2.toNat).To), vt ((ix a1 a2.toNat).Grand), vt ((ix a1 a2.toNat).Place), vt ((ix a1 a2.toNat).Who), vi ((ix a1 a2.toNat).Deposit)]]), some (.row 7 (List.map eItem v8)), none, none, none, none, none, none, none] (by kernel_rfl) ?_
    refine RegD.op (OpD.valk (g := (((ix a1 v9).Kind) != (0 : Int))) (v := eS 7 eItem a1) _ _ (cz (IG 136 (.mov (.t 1)) 135 true) (by kernel_rfl)) rfl (by kernel_rfl) (fun hg => (.cons rfl .nil))) ?_
    refine RegD.op (OpD.valk (g := (((ix a1 v9).Kind) != (0 : Int))) (v := vi ((v9 : Nat) : Int)) _ _ (cz (IG 137 (.mov (.t 11)) 135 true) (by kernel_rfl)) rfl (by kernel_rfl) (fun hg => (.cons rfl .nil))) ?_
    refine RegD.op (OpD.valg (g := (((ix a1 v9).Kind) != (0 : Int))) (v := .fptr 7 (List.map eItem a1) v9 0) _ _ (cz (IG 138 (.iaddr 7 (.t 136) (.t 137)) 135 true) (by kernel_rfl)) rfl (fun hg => (ok_iaddr_m (j := v9) rfl rfl rfl c26)) (fun hg => (.cons hg (.cons hg .nil)))) ?_
    refine RegD.op (OpD.valk (g := (((ix a1 v9).Kind) != (0 : Int))) (v := .fptr 7 (List.map eItem a1) v9 0) _ _ (cz (IG 139 (.faddr 0 (.t 138)) 135 true) (by kernel_rfl)) rfl (by kernel_rfl) (fun hg => (.cons hg .nil))) ?_
    refine RegD.op (OpD.valg (g := (((ix a1 v9).Kind) != (0 : Int))) (v := vi ((ix a1 v9).Kind)) _ _ (cz (IG 140 (.load false 1 (.t 139)) 135 true) (by kernel_rfl)) rfl (fun hg => (ok_load_fm (v := vi ((ix a1 v9).Kind)) rfl c26 rfl)) (fun hg => (.cons hg .nil))) ?_
    refine RegD.op (OpD.valk (g := (((ix a1 v9).Kind) != (0 : Int))) (v := vb (((ix a1 v9).Kind) != (2 : Int))) _ _ (cz (IG 141 (.bin .neq false (.t 140) (.c (.p (.int .i64 2)))) 135 true) (by kernel_rfl)) rfl (by kernel_rfl) (fun hg => (.cons hg (.cons rfl .nil)))) ?_
    refine RegD.op (OpD.and (cz (I0 142 (.pick (.t 135) (.t 141) (.c (.p (.bool false))))) (by kernel_rfl)) rfl rfl (by first | exact hokA1 | exact hokA0 | simp)) ?_
    refine RegD.run 1 [(143, vb ((((ix a1 v9).Kind) != (0 : Int)) && (((ix a1 v9).Kind) != (2 : Int)))), (142, vb ((((ix a1 v9).Kind) != (0 : Int)) && (((ix a1 v9).Kind) != (2 : Int)))), (141, .cond (((ix a1 v9).Kind) != (0 : Int)) (vb (((ix a1 v9).Kind) != (2 : Int)))), (140, .cond (((ix a1 v9).Kind) != (0 : Int)) (vi ((ix a1 v9).Kind))), (139, .cond (((ix a1 v9).Kind) != (0 : Int)) (.fptr 7 (List.map eItem a1) v9 0)), (138, .cond (((ix a1 v9).Kind) != (0 : Int)) (.fptr 7 (List.map eItem a1) v9 0)), (137, .cond (((ix a1 v9).Kind) != (0 : Int)) (vi ((v9 : Nat) : Int))), (136, .cond (((ix a1 v9).Kind) != (0 : Int)) (eS 7 eItem a1)), (135, vb (((ix a1 v9).Kind) != (0 : Int))), (134, vb (((ix a1 v9).Kind) != (0 : Int))), (133, vi ((ix a1 v9).Kind)), (132, .fptr 7 (List.map eItem a1) v9 0), (131, .fptr 7 (List.map eItem a1) v9 0), (130, vi ((v9 : Nat) : Int)), (129, eS 7 eItem a1), (1, eS 7 eItem a1), (2, vi a2), (3, .ptr 0 0 0), (7, vi y5.2), (9, .ptr 1 0 0), (10, .own 2 0 v8.length), (11, vi ((v9 : Nat) : Int))] [some (.row 6 [.agg [eS 1 vt a0.Places, eS 1 vt a0.Technicians, eS 4 eRoad a0.Roads, eS 3 eGrand a0.Grands, vi a0.Change, vi a0.Lasts]]), some (.row 7 [.agg [vi ((ix a1 a2.toNat).Kind), vi ((ix a1 a2.toNat).From), vi ((ix a1 a2.toNat).To), vt ((ix a1 a2.toNat).Grand), vt ((ix a1 a2.toNat).Place), vt ((ix a1 a2.toNat).Who), vi ((ix a1 a2.toNat).Deposit)]]), some (.row 7 (List.map eItem v8)), none, none, none, none, none, none, none, none, none, none, none, none, none, none, none] (by kernel_rfl) ?_
    refine RegD.op (OpD.valk (g := !((((ix a1 v9).Kind) != (0 : Int)) && (((ix a1 v9).Kind) != (2 : Int)))) (v := eS 7 eItem a1) _ _ (cz (IG 144 (.mov (.t 1)) 143 false) (by kernel_rfl)) rfl (by kernel_rfl) (fun hg => (.cons rfl .nil))) ?_
    refine RegD.op (OpD.valk (g := !((((ix a1 v9).Kind) != (0 : Int)) && (((ix a1 v9).Kind) != (2 : Int)))) (v := vi ((v9 : Nat) : Int)) _ _ (cz (IG 145 (.mov (.t 11)) 143 false) (by kernel_rfl)) rfl (by kernel_rfl) (fun hg => (.cons rfl .nil))) ?_
    refine RegD.op (OpD.valg (g := !((((ix a1 v9).Kind) != (0 : Int)) && (((ix a1 v9).Kind) != (2 : Int)))) (v := .fptr 7 (List.map eItem a1) v9 0) _ _ (cz (IG 146 (.iaddr 7 (.t 144) (.t 145)) 143 false) (by kernel_rfl)) rfl (fun hg => (ok_iaddr_m (j := v9) rfl rfl rfl c26)) (fun hg => (.cons hg (.cons hg .nil)))) ?_
    refine RegD.op (OpD.valk (g := !((((ix a1 v9).Kind) != (0 : Int)) && (((ix a1 v9).Kind) != (2 : Int)))) (v := .fptr 7 (List.map eItem a1) v9 3) _ _ (cz (IG 147 (.faddr 3 (.t 146)) 143 false) (by kernel_rfl)) rfl (by kernel_rfl) (fun hg => (.cons hg .nil))) ?_
    refine RegD.op (OpD.valg (g := !((((ix a1 v9).Kind) != (0 : Int)) && (((ix a1 v9).Kind) != (2 : Int)))) (v := vt ((ix a1 v9).Grand)) _ _ (cz (IG 148 (.load false 1 (.t 147)) 143 false) (by kernel_rfl)) rfl (fun hg => (ok_load_fm (v := vt ((ix a1 v9).Grand)) rfl c26 rfl)) (fun hg => (.cons hg .nil))) ?_
    refine RegD.op (OpD.valk (g := !((((ix a1 v9).Kind) != (0 : Int)) && (((ix a1 v9).Kind) != (2 : Int)))) (v := .ptr 1 0 3) _ _ (cz (IG 149 (.faddr 3 (.t 9)) 143 false) (by kernel_rfl)) rfl (by kernel_rfl) (fun hg => (.cons rfl .nil))) ?_
    refine RegD.op (OpD.valk (g := !((((ix a1 v9).Kind) != (0 : Int)) && (((ix a1 v9).Kind) != (2 : Int)))) (v := vt ((ix a1 a2.toNat).Grand)) _ _ (cz (IG 150 (.load false 1 (.t 149)) 143 false) (by kernel_rfl)) rfl (by kernel_rfl) (fun hg => (.cons hg .nil))) ?_
    refine RegD.op (OpD.valk (g := !((((ix a1 v9).Kind) != (0 : Int)) && (((ix a1 v9).Kind) != (2 : Int)))) (v := vb (!(((ix a1 v9).Grand) == ((ix a1 a2.toNat).Grand)))) _ _ (cz (IG 151 (.bin .neq false (.t 148) (.t 150)) 143 false) (by kernel_rfl)) rfl (by kernel_rfl) (fun hg => (.cons hg (.cons hg .nil)))) ?_
    refine RegD.op (OpD.or (cz (I0 152 (.pick (.t 143) (.c (.p (.bool true))) (.t 151))) (by kernel_rfl)) rfl rfl (by first | exact hokO1 | exact hokO0 | simp)) ?_
    refine RegD.done rfl (by kernel_rfl) (S' := ⟨[(1, eS 7 eItem a1), (2, vi a2), (3, .ptr 0 0 0), (7, vi y5.2), (9, .ptr 1 0 0), (10, .own 2 0 v8.length), (11, vi ((v9 : Nat) : Int)), (152, vb (((((ix a1 v9).Kind) != (0 : Int)) && (((ix a1 v9).Kind) != (2 : Int))) || (!(((ix a1 v9).Grand) == ((ix a1 a2.toNat).Grand)))))], [some (.row 6 [.agg [eS 1 vt a0.Places, eS 1 vt a0.Technicians, eS 4 eRoad a0.Roads, eS 3 eGrand a0.Grands, vi a0.Change, vi a0.Lasts]]), some (.row 7 [.agg [vi ((ix a1 a2.toNat).Kind), vi ((ix a1 a2.toNat).From), vi ((ix a1 a2.toNat).To), vt ((ix a1 a2.toNat).Grand), vt ((ix a1 a2.toNat).Place), vt ((ix a1 a2.toNat).Who), vi ((ix a1 a2.toNat).Deposit)]]), some (.row 7 (List.map eItem v8))]⟩) (sc [0, 1, 2] (by decide) (by kernel_rfl) (.cons rfl (.cons (by kernel_rfl) (obRen_row eItem_frz (by kernel_rfl) .nil))) rfl rfl) ?_
    refine TriE.cond (b := ((((ix a1 v9).Kind) != (0 : Int)) && (((ix a1 v9).Kind) != (2 : Int))) || (!(((ix a1 v9).Grand) == ((ix a1 a2.toNat).Grand)))) rfl (fun c27 => ?_) (fun c27 => ?_)
    · have h := cond_t h c27
      refine TriE.regJ ?_
      refine RegJ.run 3 [(1, eS 7 eItem a1), (2, vi a2), (3, .ptr 0 0 0), (7, vi y5.2), (9, .ptr 1 0 0), (11, vi ((v9 : Nat) : Int)), (153, .own 2 0 v8.length), (154, eS 7 eItem a1), (155, vi ((v9 : Nat) : Int))] [some (.row 6 [.agg [eS 1 vt a0.Places, eS 1 vt a0.Technicians, eS 4 eRoad a0.Roads, eS 3 eGrand a0.Grands, vi a0.Change, vi a0.Lasts]]), some (.row 7 [.agg [vi ((ix a1 a2.toNat).Kind), vi ((ix a1 a2.toNat).From), vi ((ix a1 a2.toNat).To), vt ((ix a1 a2.toNat).Grand), vt ((ix a1 a2.toNat).Place), vt ((ix a1 a2.toNat).Who), vi ((ix a1 a2.toNat).Deposit)]]), some (.row 7 (List.map eItem v8))] (by kernel_rfl) ?_
      refine jv (.fptr 7 (List.map eItem a1) v9 0) (cz (I0 156 (.iaddr 7 (.t 154) (.t 155))) (by kernel_rfl)) (ok_iaddr_m (j := v9) rfl rfl rfl c26) rfl ?_
      refine jv (.agg [vi ((ix a1 v9).Kind), vi ((ix a1 v9).From), vi ((ix a1 v9).To), vt ((ix a1 v9).Grand), vt ((ix a1 v9).Place), vt ((ix a1 v9).Who), vi ((ix a1 v9).Deposit)]) (cz (I0 157 (.load true 7 (.t 156))) (by kernel_rfl)) (ok_load_fm (v := .agg [vi ((ix a1 v9).Kind), vi ((ix a1 v9).From), vi ((ix a1 v9).To), vt ((ix a1 v9).Grand), vt ((ix a1 v9).Place), vt ((ix a1 v9).Who), vi ((ix a1 v9).Deposit)]) rfl c26 rfl) rfl ?_
      refine RegJ.run 1 [(1, eS 7 eItem a1), (2, vi a2), (3, .ptr 0 0 0), (7, vi y5.2), (9, .ptr 1 0 0), (11, vi ((v9 : Nat) : Int)), (153, .own 2 0 v8.length), (158, .own 3 0 1)] [some (.row 6 [.agg [eS 1 vt a0.Places, eS 1 vt a0.Technicians, eS 4 eRoad a0.Roads, eS 3 eGrand a0.Grands, vi a0.Change, vi a0.Lasts]]), some (.row 7 [.agg [vi ((ix a1 a2.toNat).Kind), vi ((ix a1 a2.toNat).From), vi ((ix a1 a2.toNat).To), vt ((ix a1 a2.toNat).Grand), vt ((ix a1 a2.toNat).Place), vt ((ix a1 a2.toNat).Who), vi ((ix a1 a2.toNat).Deposit)]]), some (.row 7 (List.map eItem v8)), some (.row 7 [.agg [vi ((ix a1 v9).Kind), vi ((ix a1 v9).From), vi ((ix a1 v9).To), vt ((ix a1 v9).Grand), vt ((ix a1 v9).Place), vt ((ix a1 v9).Who), vi ((ix a1 v9).Deposit)]])] (by kernel_rfl) ?_
      refine cK h fun c28 h => ?_
      refine je (.own 4 0 ((v8 ++ ([(ix a1 v9)] : List Item)).length)) [some (.row 6 [.agg [eS 1 vt a0.Places, eS 1 vt a0.Technicians, eS 4 eRoad a0.Roads, eS 3 eGrand a0.Grands, vi a0.Change, vi a0.Lasts]]), some (.row 7 [.agg [vi ((ix a1 a2.toNat).Kind), vi ((ix a1 a2.toNat).From), vi ((ix a1 a2.toNat).To), vt ((ix a1 a2.toNat).Grand), vt ((ix a1 a2.toNat).Place), vt ((ix a1 a2.toNat).Who), vi ((ix a1 a2.toNat).Deposit)]]), none, some (.row 7 [.agg [vi ((ix a1 v9).Kind), vi ((ix a1 v9).From), vi ((ix a1 v9).To), vt ((ix a1 v9).Grand), vt ((ix a1 v9).Place), vt ((ix a1 v9).Who), vi ((ix a1 v9).Deposit)]]), some (.row 7 (List.map eItem (v8 ++ ([(ix a1 v9)] : List Item))))] (cz (I0 159 (.app 7 80 (.t 153) (.t 158))) (by kernel_rfl)) (ok_app_own (l := v8) (l2 := ([(ix a1 v9)] : List Item)) (e := eItem) (u := .own 3 0 1) rfl rfl rfl rfl rfl c28) rfl rfl rfl ?_
      refine jrd 1 [(1, eS 7 eItem a1), (2, vi a2), (3, .ptr 0 0 0), (7, vi y5.2), (9, .ptr 1 0 0), (11, vi ((v9 : Nat) : Int)), (10, .own 4 0 ((v8 ++ ([(ix a1 v9)] : List Item)).length))] [some (.row 6 [.agg [eS 1 vt a0.Places, eS 1 vt a0.Technicians, eS 4 eRoad a0.Roads, eS 3 eGrand a0.Grands, vi a0.Change, vi a0.Lasts]]), some (.row 7 [.agg [vi ((ix a1 a2.toNat).Kind), vi ((ix a1 a2.toNat).From), vi ((ix a1 a2.toNat).To), vt ((ix a1 a2.toNat).Grand), vt ((ix a1 a2.toNat).Place), vt ((ix a1 a2.toNat).Who), vi ((ix a1 a2.toNat).Deposit)]]), none, some (.row 7 [.agg [vi ((ix a1 v9).Kind), vi ((ix a1 v9).From), vi ((ix a1 v9).To), vt ((ix a1 v9).Grand), vt ((ix a1 v9).Place), vt ((ix a1 v9).Who), vi ((ix a1 v9).Deposit)]]), some (.row 7 (List.map eItem (v8 ++ ([(ix a1 v9)] : List Item))))] (by kernel_rfl) rfl ?_
      exact Vs.intro (sc [0, 1, 4] (by decide) (by kernel_rfl) (.cons rfl (.cons (by kernel_rfl) (obRen_row eItem_frz (by kernel_rfl) .nil))) rfl rfl) ⟨(v8 ++ ([(ix a1 v9)] : List Item)), rfl, h⟩
    have h := cond_f h c27
    refine TriE.skip ?_
    exact Vs.intro (sl (by kernel_rfl)) ⟨v8, rfl, h⟩
  have h := cond_f h c20
  refine TriE.exit ?_
  exact Vs.intro (sl (by kernel_rfl)) ⟨v8, rfl, h⟩
end Go.Proofs.Ytpmkdgnhllhaeaa.As
