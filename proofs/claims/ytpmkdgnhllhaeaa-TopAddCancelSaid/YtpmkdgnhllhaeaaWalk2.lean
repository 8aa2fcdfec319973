/- The code computes what the plain functions say, part 2: no condition. -/
import Derived.Test.YtpmkdgnhllhaeaaWalk1
namespace Go.Proofs.Ytpmkdgnhllhaeaa.As
open Go Go.Proofs
set_option maxRecDepth 4000
set_option maxHeartbeats 1000000 in
theorem diary_plan_add_2_ok (n : Nat) (a0 : List Str) (a1 : List Str) (a2 : List Road) (a3 : List Grand) (a4 : Int) (a5 : Int) (a6 : List (Int × List (Arr2_Str × Int))) (a7 : List Item) (a8 : Item) (r : Int × (List (Int × List (Arr2_Str × Int))) × (List Item)) (h : diary_plan_add_2 n a0 a1 a2 a3 a4 a5 a6 a7 a8 = some r) : FnL Try.prog 78 [.ptr 0 0 0, eS 7 eItem a7, .agg [vi a8.Kind, vi a8.From, vi a8.To, vt a8.Grand, vt a8.Place, vt a8.Who, vi a8.Deposit]] [some (.row 7 [.agg [eS 1 vt a0, eS 1 vt a1, eS 4 eRoad a2, eS 3 eGrand a3, vi a4, vi a5, .map 1]]), some (.mp (mpE vi (eM eArr2_Str vi) a6))] (.tup [eS 7 eItem r.2.2, vi r.1]) [some (.row 7 [.agg [eS 1 vt a0, eS 1 vt a1, eS 4 eRoad a2, eS 3 eGrand a3, vi a4, vi a5, .map 1]]), some (.mp (mpE vi (eM eArr2_Str vi) r.2.1))] := by
 dsimp only [diary_plan_add_2] at h
 refine fob [6, 7] Try.call78 Try.func78 rfl (.cons rfl (.cons rfl .nil)) ?_
 refine sko (.k2 (.i 5 (.ptr 2 0 0) .n)) [some (.row 7 [.agg [eS 1 vt a0, eS 1 vt a1, eS 4 eRoad a2, eS 3 eGrand a3, vi a4, vi a5, .map 1]]), some (.mp (mpE vi (eM eArr2_Str vi) a6)), some (.row 7 [.agg [vi a8.Kind, vi a8.From, vi a8.To, vt a8.Grand, vt a8.Place, vt a8.Who, vi a8.Deposit]])] ?_
 refine sk (.k3 (.i 8 (vi 0) .n)) ?_
 refine TriE.seqK h (fun (v2 : Nat) => St.mk [(0, .ptr 0 0 0), (1, eS 7 eItem a7), (5, .ptr 2 0 0), (8, vi v2)] [some (.row 7 [.agg [eS 1 vt a0, eS 1 vt a1, eS 4 eRoad a2, eS 3 eGrand a3, vi a4, vi a5, .map 1]]), some (.mp (mpE vi (eM eArr2_Str vi) a6)), some (.row 7 [.agg [vi a8.Kind, vi a8.From, vi a8.To, vt a8.Grand, vt a8.Place, vt a8.Who, vi a8.Deposit]])]) ?_ ?_
 ·rintro v2 h
  refine q1 ?_
  refine ts .a ?_
  refine TriE.draw (by kernel_rfl) ?_
  refine dk 1 (.i 28 (eS 7 eItem a7) .a) ?_
  refine bK h fun y3 hy3 h => ?_
  refine dc (.own 4 0 y3.length) 1 29 [28] (slices_Clone_Item_ok n a7 y3 hy3) [] rfl ObsRen.nil (.same (row_ren eItem_frz _ _ _) .nil) rfl (.inl rfl) ?_
  refine dko 3 (.i 32 (.own 8 0 1) (.i 31 (.agg [vi a8.Kind, vi a8.From, vi a8.To, vt a8.Grand, vt a8.Place, vt a8.Who, vi a8.Deposit]) (.i 30 (vi v2) .a))) [some (.row 7 [.agg [eS 1 vt a0, eS 1 vt a1, eS 4 eRoad a2, eS 3 eGrand a3, vi a4, vi a5, .map 1]]), some (.mp (mpE vi (eM eArr2_Str vi) a6)), some (.row 7 [.agg [vi a8.Kind, vi a8.From, vi a8.To, vt a8.Grand, vt a8.Place, vt a8.Who, vi a8.Deposit]]), none, some (.row 7 (List.map eItem y3)), none, none, none, some (.row 7 [.agg [vi a8.Kind, vi a8.From, vi a8.To, vt a8.Grand, vt a8.Place, vt a8.Who, vi a8.Deposit]])] ?_
  refine bK h fun y4 hy4 h => ?_
  refine dc (.own 9 0 y4.length) 1 33 [29, 30, 32] (slices_Insert_Item_ok n y3 (v2 : Int) ([a8] : List Item) y4 hy4) [4, 8] rfl (.same (row_ren eItem_frz _ _ _) (.same (row_ren eItem_frz _ _ _) .nil)) (.cons rfl (.same (row_ren eItem_frz _ _ _) (.same (row_ren eItem_frz _ _ _) .nil))) rfl (.inl rfl) ?_
  refine dk 1 (.i 9 (.own 9 0 y4.length) .a) ?_
  refine dfi (ob' := [some (.row 7 [.agg [eS 1 vt a0, eS 1 vt a1, eS 4 eRoad a2, eS 3 eGrand a3, vi a4, vi a5, .map 1]]), some (.mp (mpE vi (eM eArr2_Str vi) a6)), some (.row 7 (List.map eItem y4))]) (.d4 (.d3 (.k (.i 9 (.own 2 0 y4.length) .n)))) [0, 1, 9] (.cons rfl (obRen_mp vi_frz (eM_frz eArr2_Str vi) rfl (obRen_row eItem_frz rfl .nil))) ?_
  refine q1 ?_
  refine sj ?_
  refine rk 2 (.d (.k (.i 35 (.ptr 0 0 0) (.i 36 (.own 2 0 y4.length) .n)))) ?_
  refine RegJ.sees (Sees.freeze 2 (fr' := [(9, eS 7 eItem y4), (35, .ptr 0 0 0), (36, eS 7 eItem y4)]) (ob' := [some (.row 7 [.agg [eS 1 vt a0, eS 1 vt a1, eS 4 eRoad a2, eS 3 eGrand a3, vi a4, vi a5, .map 1]]), some (.mp (mpE vi (eM eArr2_Str vi) a6)), none]) rfl (frz_row eItem_frzE _) (.cons (frz_full rfl) (.cons (.refl _) (.cons (frz_full rfl) .nil))) rfl) ?_
  refine bK h fun y5 hy5 h => ?_
  refine jco (.tup [vi y5.1, vi y5.2.1]) 37 [35, 36] (diary_plan_accept_2_ok n a0 a1 a2 a3 a4 a5 a6 y4 y5 hy5) [0, 1] rfl (.cons rfl (.same (mp_ren vi_frz (eM_frz eArr2_Str vi) _ _) .nil)) (.cons rfl (.same (mp_ren vi_frz (eM_frz eArr2_Str vi) _ _) .nil)) rfl ?_
  refine jk 5 (.d (.k (.i 11 (vi y5.2.1) .n))) ?_
  refine sk (.k2 (.i 41 (vb (y5.2.1 != (0 : Int))) .n)) ?_
  refine tc h (fun c3 h => ?_) (fun c3 h => ?_)
  ·refine sk (.i 6 .emp (.i 7 (vi y5.2.1) .n)) ?_
   refine q3 ?_
   have h := si h
   subst h
   exact DoneS.ret (S' := ⟨[(6, eS 7 eItem ([] : List Item)), (7, vi y5.2.1)], [some (.row 7 [.agg [eS 1 vt a0, eS 1 vt a1, eS 4 eRoad a2, eS 3 eGrand a3, vi a4, vi a5, .map 1]]), some (.mp (mpE vi (eM eArr2_Str vi) y5.2.2))]⟩) (Sees.trans (Sees.vco (fr' := [(6, eS 7 eItem ([] : List Item)), (7, vi y5.2.1)]) (.cons .sl (.cons .same .nil))) (sc [0, 1] (by decide) (by kernel_rfl) (.cons rfl (obRen_mp vi_frz (eM_frz eArr2_Str vi) rfl .nil)) rfl rfl)) rfl rfl
  refine q2 ?_
  refine sk (.i 6 (eS 7 eItem y4) (.i 7 (vi 0) .n)) ?_
  refine q3 ?_
  have h := si h
  subst h
  exact DoneS.ret (S' := ⟨[(6, eS 7 eItem y4), (7, vi 0)], [some (.row 7 [.agg [eS 1 vt a0, eS 1 vt a1, eS 4 eRoad a2, eS 3 eGrand a3, vi a4, vi a5, .map 1]]), some (.mp (mpE vi (eM eArr2_Str vi) y5.2.2))]⟩) (sc [0, 1] (by decide) (by kernel_rfl) (.cons rfl (obRen_mp vi_frz (eM_frz eArr2_Str vi) rfl .nil)) rfl rfl) rfl rfl
 intro k1 h
 refine q4 ?_
 refine ts (.k3 (.i 8 (vi 0) .n)) ?_
 refine TriE.loopN h (fun (v1 : Nat) => St.mk [(0, .ptr 0 0 0), (1, eS 7 eItem a7), (5, .ptr 2 0 0), (8, vi v1)] [some (.row 7 [.agg [eS 1 vt a0, eS 1 vt a1, eS 4 eRoad a2, eS 3 eGrand a3, vi a4, vi a5, .map 1]]), some (.mp (mpE vi (eM eArr2_Str vi) a6)), some (.row 7 [.agg [vi a8.Kind, vi a8.From, vi a8.To, vt a8.Grand, vt a8.Place, vt a8.Who, vi a8.Deposit]])]) rfl ?_
 clear h
 rintro back v1 h
 dsimp only [diary_plan_add_2_L1] at h
 refine q1 ?_
 refine q1 ?_
 refine ts .a ?_
 refine TriE.draw (by kernel_rfl) ?_
 refine dk 2 (.i 13 (eS 7 eItem a7) (.i 12 (vi v1) .a)) ?_
 refine dp 14 (.len 0 13) (ok_len_m rfl) ?_
 refine dp 15 (.bin .lss false 12 14) (n_lss (i := v1) (j := a7.length) rfl rfl) ?_
 refine dk 1 (.i 16 (vb (decide (v1 < a7.length))) .a) ?_
 refine gd (decide (v1 < a7.length)) (eS 7 eItem a7) 17 (.mov 1) 16 true rfl (fun hg => (.cons rfl .nil)) ?_
 refine gd (decide (v1 < a7.length)) (vi v1) 18 (.mov 8) 16 true rfl (fun hg => (.cons rfl .nil)) ?_
 refine gu (decide (v1 < a7.length)) 19 (.iaddr 7 17 18) 16 true rfl (fun hg => (ok_iaddr_m (j := v1) rfl rfl rfl hg)) (fun hg => (.cons hg (.cons hg .nil))) ?_
 refine gd (decide (v1 < a7.length)) (.fptr 7 (List.map eItem a7) v1 1) 20 (.faddr 1 19) 16 true rfl (fun hg => (.cons hg .nil)) ?_
 refine gu (decide (v1 < a7.length)) 21 (.load false 1 20) 16 true rfl (fun hg => (ok_load_fm (v := vi ((ix a7 v1).From)) rfl hg rfl)) (fun hg => (.cons hg .nil)) ?_
 refine gd (decide (v1 < a7.length)) (.ptr 2 0 1) 22 (.faddr 1 5) 16 true rfl (fun hg => (.cons rfl .nil)) ?_
 refine gd (decide (v1 < a7.length)) (vi a8.From) 23 (.load false 1 22) 16 true rfl (fun hg => (.cons hg .nil)) ?_
 refine gd (decide (v1 < a7.length)) (vb (decide (((ix a7 v1).From) ≤ a8.From))) 24 (.bin .leq false 21 23) 16 true rfl (fun hg => (.cons hg (.cons hg .nil))) ?_
 refine RegD.op (OpD.and (cy (I0 25 (.pick 16 24 (.c (.p (.bool false)))))) rfl rfl (by first | exact hokA1 | exact hokA0 | simp)) ?_
 refine dfi (ob' := [some (.row 7 [.agg [eS 1 vt a0, eS 1 vt a1, eS 4 eRoad a2, eS 3 eGrand a3, vi a4, vi a5, .map 1]]), some (.mp (mpE vi (eM eArr2_Str vi) a6)), some (.row 7 [.agg [vi a8.Kind, vi a8.From, vi a8.To, vt a8.Grand, vt a8.Place, vt a8.Who, vi a8.Deposit]])]) (.d4 (.d4 (.d4 (.d2 (.k4 (.i 25 (vb ((decide (v1 < a7.length)) && (decide (((ix a7 v1).From) ≤ a8.From)))) .n)))))) [0, 1, 2] (.cons rfl (obRen_mp vi_frz (eM_frz eArr2_Str vi) rfl (.cons rfl .nil))) ?_
 refine tc h (fun c1 h => ?_) (fun c1 h => ?_)
 ·refine q2 ?_
  refine q4 ?_
  refine q6 ?_
  refine rk 1 (.k3 (.i 26 (vi v1) .n)) ?_
  refine cK h fun c2 h => ?_
  refine jo 27 (.bin .add false 26 (ki 1)) (r_addn (i := v1) (j := 1) rfl rfl c2) ?_
  refine jk 1 (.d (.k3 (.i 8 (vi ((v1 + 1 : Nat) : Int)) .n))) ?_
  exact Vs.intro sy ⟨(v1 + 1), rfl, h⟩
 refine q5 ?_
 exact Vs.intro sy ⟨v1, rfl, h⟩
set_option maxHeartbeats 1000000 in
theorem diary_FreeFrom_ok (n : Nat) (a0 : Diary) (a1 : List Item) (a2 : Item) (r : Int × Int) (h : diary_FreeFrom n a0 a1 a2 = some r) : FnL Try.prog 24 [.agg [eS 1 vt a0.Places, eS 1 vt a0.Technicians, eS 4 eRoad a0.Roads, eS 3 eGrand a0.Grands, vi a0.Change, vi a0.Lasts], eS 7 eItem a1, .agg [vi a2.Kind, vi a2.From, vi a2.To, vt a2.Grand, vt a2.Place, vt a2.Who, vi a2.Deposit]] [] (.tup [vi r.2, vi r.1]) [] := by
 dsimp only [diary_FreeFrom] at h
 refine fo [6, 7] Try.call24 Try.func24 rfl ?_
 refine sko (.d (.k (.i 3 (.ptr 0 0 0) (.i 5 (.ptr 1 0 0) .n)))) [some (.row 6 [.agg [eS 1 vt a0.Places, eS 1 vt a0.Technicians, eS 4 eRoad a0.Roads, eS 3 eGrand a0.Grands, vi a0.Change, vi a0.Lasts]]), some (.row 7 [.agg [vi a2.Kind, vi a2.From, vi a2.To, vt a2.Grand, vt a2.Place, vt a2.Who, vi a2.Deposit]])] ?_
 refine TriE.seqK2 h (fun (v4 : Int) => St.mk [(1, eS 7 eItem a1), (3, .ptr 0 0 0), (5, .ptr 1 0 0), (8, .p (.pointer none)), (9, vi v4)] [some (.row 6 [.agg [eS 1 vt a0.Places, eS 1 vt a0.Technicians, eS 4 eRoad a0.Roads, eS 3 eGrand a0.Grands, vi a0.Change, vi a0.Lasts]]), some (.row 7 [.agg [vi a2.Kind, vi a2.From, vi a2.To, vt a2.Grand, vt a2.Place, vt a2.Who, vi a2.Deposit]])]) (fun (t : Int × (List (Int × List (Arr2_Str × Int)))) => match t with | (v11, v12) => St.mk [(1, eS 7 eItem a1), (3, .ptr 0 0 0), (5, .ptr 1 0 0), (8, .ptr 3 0 0), (9, vi v11)] [some (.row 6 [.agg [eS 1 vt a0.Places, eS 1 vt a0.Technicians, eS 4 eRoad a0.Roads, eS 3 eGrand a0.Grands, vi a0.Change, vi a0.Lasts]]), some (.row 7 [.agg [vi a2.Kind, vi a2.From, vi a2.To, vt a2.Grand, vt a2.Place, vt a2.Who, vi a2.Deposit]]), some (.mp (mpE vi (eM eArr2_Str vi) v12)), some (.row 7 [.agg [eS 1 vt a0.Places, eS 1 vt a0.Technicians, eS 4 eRoad a0.Roads, eS 3 eGrand a0.Grands, vi a0.Change, vi a0.Lasts, .map 2]])]) ?_ ?_ ?_
 ·rintro v4 h
  refine q7 ?_
  refine sk (.k4 (.k (.i 28 (vb (v4 != (0 : Int))) .n))) ?_
  refine tc h (fun c1 h => ?_) (fun c1 h => ?_)
  ·refine sk (.i 6 (vi 0) (.i 7 (vi v4) .n)) ?_
   refine q3 ?_
   have h := si h
   subst h
   exact DoneS.ret (S' := ⟨[(6, vi 0), (7, vi v4)], []⟩) (sc [] (by decide) (by kernel_rfl) ObRen.nil rfl rfl) rfl rfl
  refine sj ?_
  refine rk 1 (.k4 (.i 33 (eS 7 eItem a1) .n)) ?_
  refine jo 34 (.len 0 33) (ok_len_m rfl) ?_
  refine jo 35 (.bin .geq false 34 (ki 100)) (n_geq (i := a1.length) (j := 100) rfl rfl) ?_
  refine jk 1 (.d2 (.k4 (.i 32 (vb (decide (100 ≤ a1.length))) .n))) ?_
  refine tc h (fun c2 h => ?_) (fun c2 h => ?_)
  ·refine sk (.i 6 (vi 0) (.i 7 (vi 8) .n)) ?_
   refine q3 ?_
   have h := si h
   subst h
   exact DoneS.ret (S' := ⟨[(6, vi 0), (7, vi 8)], []⟩) (sc [] (by decide) (by kernel_rfl) ObRen.nil rfl rfl) rfl rfl
  refine q2 ?_
  refine q1 ?_
  refine sj ?_
  refine rk 2 (.k4 (.i 36 (.agg [eS 1 vt a0.Places, eS 1 vt a0.Technicians, eS 4 eRoad a0.Roads, eS 3 eGrand a0.Grands, vi a0.Change, vi a0.Lasts]) (.i 37 (.agg [vi a2.Kind, vi a2.From, vi a2.To, vt a2.Grand, vt a2.Place, vt a2.Who, vi a2.Deposit]) .n))) ?_
  refine bK h fun y5 hy5 h => ?_
  refine jc 38 [36, 37] (diary_checkItem_ok n a0 a2 y5 hy5) ?_
  refine jk 1 (.d (.k4 (.i 10 (vi y5) .n))) ?_
  refine sk (.k4 (.k (.i 40 (vb (y5 != (0 : Int))) .n))) ?_
  refine tc h (fun c3 h => ?_) (fun c3 h => ?_)
  ·refine sk (.i 6 (vi 0) (.i 7 (vi y5) .n)) ?_
   refine q3 ?_
   have h := si h
   subst h
   exact DoneS.ret (S' := ⟨[(6, vi 0), (7, vi y5)], []⟩) (sc [] (by decide) (by kernel_rfl) ObRen.nil rfl rfl) rfl rfl
  refine q2 ?_
  refine sko (.k4 (.i 11 (.own 2 0 1) .n)) [some (.row 6 [.agg [eS 1 vt a0.Places, eS 1 vt a0.Technicians, eS 4 eRoad a0.Roads, eS 3 eGrand a0.Grands, vi a0.Change, vi a0.Lasts]]), some (.row 7 [.agg [vi a2.Kind, vi a2.From, vi a2.To, vt a2.Grand, vt a2.Place, vt a2.Who, vi a2.Deposit]]), some (.row 1 [vi a2.From])] ?_
  refine TriE.seqK h (fun (_ : Unit) => St.mk [(1, eS 7 eItem a1), (5, .ptr 0 0 0), (8, .p (.pointer none)), (11, .own 1 0 1)] [some (.row 7 [.agg [vi a2.Kind, vi a2.From, vi a2.To, vt a2.Grand, vt a2.Place, vt a2.Who, vi a2.Deposit]]), some (.row 1 [vi a2.From])]) ?_ ?_
  ·rintro ⟨⟩ h
   refine sj ?_
   refine rk 1 (.k4 (.i 81 (.own 1 0 1) .n)) ?_
   refine bK h fun y6 hy6 h => ?_
   refine jco (.tup []) 82 [81] (slices_Sort_int_ok n ([a2.From] : List Int) y6 hy6) [1] rfl (.same (row_ren vi_frz _ _ _) .nil) (.same (row_ren vi_frz _ _ _) .nil) rfl ?_
   refine jf (.d (.k4 .n)) ?_
   refine sj ?_
   refine rk 4 (.k4 (.i 84 (vi a2.To) (.i 86 (vi a2.From) .n))) ?_
   refine cK h fun c7 h => ?_
   refine jo 87 (.bin .sub false 84 86) (r_sub rfl rfl c7) ?_
   refine jk 1 (.d (.k4 (.i 16 (vi (a2.To - a2.From)) .n))) ?_
   refine TriE.seqK h (fun (_ : Unit) => St.mk [] []) ?_ ?_
   ·rintro ⟨⟩ h
    refine sk (.i 6 (vi 0) (.i 7 (vi 12) .n)) ?_
    refine q3 ?_
    have h := si h
    subst h
    exact DoneS.ret Sees.refl rfl rfl
   intro k4 h
   refine sj ?_
   refine rk 1 (.k3 (.d (.k (.i 88 (.own 1 0 1) .n)))) ?_
   refine bK h fun y7 hy7 h => ?_
   refine jco (.own 1 0 y7.1) 89 [88] (slices_Compact_int_ok n y6 0 1 y7 hy7) [1] rfl (.same (row_ren vi_frz _ _ _) .nil) (.same (row_ren vi_frz _ _ _) .nil) rfl ?_
   refine jk 2 (.d (.k4 (.i 89 (.own 1 0 y7.1) (.i 90 (vi ((y7.1 : Nat) : Int)) (.i 91 (vi 0) .n))))) ?_
   refine q4 ?_
   refine ts (.k4 (.k2 (.i 91 (vi 0) .n))) ?_
   refine TriE.loopN h (fun (v9 : Nat) => St.mk [(1, eS 7 eItem a1), (5, .ptr 0 0 0), (8, .p (.pointer none)), (16, vi (a2.To - a2.From)), (89, .own 1 0 y7.1), (90, vi ((y7.1 : Nat) : Int)), (91, vi v9)] [some (.row 7 [.agg [vi a2.Kind, vi a2.From, vi a2.To, vt a2.Grand, vt a2.Place, vt a2.Who, vi a2.Deposit]]), some (.row 1 (List.map vi y7.2))]) rfl ?_
   clear h
   rintro back v9 h
   dsimp only [diary_FreeFrom_L2] at h
   refine sj ?_
   refine jo 92 (.bin .lss false 91 90) (n_lss (i := v9) (j := y7.1) rfl rfl) ?_
   refine jf (.d (.k4 (.k3 (.i 92 (vb (decide (v9 < y7.1))) .n)))) ?_
   refine q1 ?_
   refine tc h (fun c8 h => ?_) (fun c8 h => ?_)
   ·refine q2 ?_
    refine TriE.seqK h (fun (_ : Unit) => St.mk [(1, eS 7 eItem a1), (5, .ptr 0 0 0), (8, .p (.pointer none)), (16, vi (a2.To - a2.From)), (89, .own 1 0 y7.1), (90, vi ((y7.1 : Nat) : Int)), (91, vi v9)] [some (.row 7 [.agg [vi a2.Kind, vi a2.From, vi a2.To, vt a2.Grand, vt a2.Place, vt a2.Who, vi a2.Deposit]]), some (.row 1 (List.map vi y7.2))]) ?_ ?_
    ·rintro ⟨⟩ h
     refine q6 ?_
     refine cK h fun c14 h => ?_
     refine jo 122 (.bin .add false 91 (ki 1)) (r_addn (i := v9) (j := 1) rfl rfl c14) ?_
     refine jk 1 (.d (.k4 (.k2 (.i 91 (vi ((v9 + 1 : Nat) : Int)) .n)))) ?_
     exact Vs.intro sy ⟨(v9 + 1), rfl, h⟩
    intro k3 h
    refine q4 ?_
    refine sj ?_
    refine jo 93 (.iaddr 1 89 91) (ok_iaddr_o0 (j := v9) rfl rfl rfl rfl c8) ?_
    refine cK h fun c9 h => ?_
    refine jo 94 (.load false 1 93) (ok_load_pm (l := y7.2) (e := vi) (v := vi (ix y7.2 v9)) rfl rfl c9 rfl) ?_
    refine jk 1 (.d2 (.k4 (.k3 (.i 18 (vi (ix y7.2 v9)) .n)))) ?_
    refine q1 ?_
    refine sj ?_
    refine rk 5 (.k4 (.k4 (.i 99 (vb (decide ((ix y7.2 v9) < a2.From))) .n))) ?_
    refine gj (vi (ix y7.2 v9)) 100 (.mov 18) 99 false rfl ?_
    refine gj (vi (a2.To - a2.From)) 101 (.mov 16) 99 false rfl ?_
    refine cK h fun c10 h => ?_
    refine gv 102 (.bin .add false 100 101) 99 false rfl (fun hg => (r_add rfl rfl (gor c10 hg))) (fun hg => (.cons hg (.cons hg .nil))) ?_
    refine gk (vb (decide ((1000000 : Int) < ((ix y7.2 v9) + (a2.To - a2.From))))) 103 (.bin .gtr false 102 (ki 1000000)) 99 false rfl (fun hg => (.cons hg (.cons rfl .nil))) ?_
    refine po 104 99 103 rfl rfl ?_
    refine jf (.d4 (.d (.k4 (.k4 (.i 104 (vb ((decide ((ix y7.2 v9) < a2.From)) || (decide ((1000000 : Int) < ((ix y7.2 v9) + (a2.To - a2.From)))))) .n))))) ?_
    refine tc h (fun c11 h => ?_) (fun c11 h => ?_)
    ·refine q5 ?_
     exact Vs.intro sy ⟨(), rfl, h⟩
    refine q2 ?_
    refine sko (.k4 (.k4 (.i 19 (.ptr 2 0 0) .n))) [some (.row 7 [.agg [vi a2.Kind, vi a2.From, vi a2.To, vt a2.Grand, vt a2.Place, vt a2.Who, vi a2.Deposit]]), some (.row 1 (List.map vi y7.2)), some (.row 7 [.agg [vi a2.Kind, vi a2.From, vi a2.To, vt a2.Grand, vt a2.Place, vt a2.Who, vi a2.Deposit]])] ?_
    refine sj ?_
    refine rk 3 (.k4 (.k4 (.k (.i 106 (vi (ix y7.2 v9)) (.i 107 (vi (ix y7.2 v9)) (.i 108 (vi (a2.To - a2.From)) .n)))))) ?_
    refine cK h fun c12 h => ?_
    refine jo 109 (.bin .add false 107 108) (r_add rfl rfl c12) ?_
    refine jko 4 (.d (.k4 (.k4 (.k .n)))) [some (.row 7 [.agg [vi a2.Kind, vi a2.From, vi a2.To, vt a2.Grand, vt a2.Place, vt a2.Who, vi a2.Deposit]]), some (.row 1 (List.map vi y7.2)), some (.row 7 [.agg [vi a2.Kind, vi (ix y7.2 v9), vi ((ix y7.2 v9) + (a2.To - a2.From)), vt a2.Grand, vt a2.Place, vt a2.Who, vi a2.Deposit]])] ?_
    refine sj ?_
    refine rk 3 (.k4 (.k4 (.i 113 (.p (.pointer none)) (.i 114 (eS 7 eItem a1) (.i 115 (.agg [vi a2.Kind, vi (ix y7.2 v9), vi ((ix y7.2 v9) + (a2.To - a2.From)), vt a2.Grand, vt a2.Place, vt a2.Who, vi a2.Deposit]) .n))))) ?_
    refine bK h fun y10 hy10 h => ?_
    refine jc 116 [113, 114, 115] (diary_plan_add_ok n a1 (Item.mk a2.Kind (ix y7.2 v9) ((ix y7.2 v9) + (a2.To - a2.From)) a2.Grand a2.Place a2.Who a2.Deposit) y10 hy10) ?_
    refine jk 5 (.d (.k4 (.k4 (.i 21 (vi y10.1) .n)))) ?_
    refine sk (.k4 (.k4 (.i 120 (vb (y10.1 == (0 : Int))) .n))) ?_
    refine tc h (fun c13 h => ?_) (fun c13 h => ?_)
    ·refine sk (.i 6 (vi (ix y7.2 v9)) (.i 7 (vi 0) .n)) ?_
     refine q3 ?_
     have h := si h
     subst h
     exact DoneS.ret (S' := ⟨[(6, vi (ix y7.2 v9)), (7, vi 0)], []⟩) (sc [] (by decide) (by kernel_rfl) ObRen.nil rfl rfl) rfl rfl
    refine q2 ?_
    exact Vs.intro (sc [0, 1] (by decide) (by kernel_rfl) (.cons rfl (obRen_row vi_frz rfl .nil)) rfl rfl) ⟨(), rfl, h⟩
   refine q5 ?_
   exact Vs.intro (sc [] (by decide) (by kernel_rfl) ObRen.nil rfl rfl) ⟨(), rfl, h⟩
  intro k2 h
  refine sj ?_
  refine rk 1 (.k4 (.k (.i 45 (eS 7 eItem a1) .n))) ?_
  refine jo 46 (.len 0 45) (ok_len_m rfl) ?_
  refine jk 1 (.d (.k4 (.k2 (.i 46 (vi (a1.length : Int)) (.i 47 (vi 0) .n))))) ?_
  refine q4 ?_
  refine TriE.loopN h (fun (_ : Unit) => St.mk [(1, eS 7 eItem a1), (3, .ptr 0 0 0), (5, .ptr 1 0 0), (8, .p (.pointer none)), (11, .own 2 0 1), (45, eS 7 eItem a1), (46, vi (a1.length : Int)), (47, vi 0)] [some (.row 6 [.agg [eS 1 vt a0.Places, eS 1 vt a0.Technicians, eS 4 eRoad a0.Roads, eS 3 eGrand a0.Grands, vi a0.Change, vi a0.Lasts]]), some (.row 7 [.agg [vi a2.Kind, vi a2.From, vi a2.To, vt a2.Grand, vt a2.Place, vt a2.Who, vi a2.Deposit]]), some (.row 1 [vi a2.From])]) rfl ?_
  clear h
  rintro back ⟨⟩ h
  dsimp only [diary_FreeFrom_L1] at h
  refine sj ?_
  refine jo 48 (.bin .lss false 47 46) (n_lss (i := 0) (j := a1.length) rfl rfl) ?_
  refine jf (.d (.k4 (.k4 (.i 48 (vb (decide (0 < a1.length))) .n)))) ?_
  refine q1 ?_
  refine tc h (fun c4 h => ?_) (fun c4 h => ?_)
  ·refine q2 ?_
   refine q7 ?_
   refine sj ?_
   refine jo 49 (.iaddr 7 45 47) (ok_iaddr_m (j := 0) rfl rfl rfl c4) ?_
   refine jo 50 (.load true 7 49) (ok_load_fm (v := .agg [vi ((ix a1 0).Kind), vi ((ix a1 0).From), vi ((ix a1 0).To), vt ((ix a1 0).Grand), vt ((ix a1 0).Place), vt ((ix a1 0).Who), vi ((ix a1 0).Deposit)]) rfl c4 rfl) ?_
   refine jko 2 (.d2 (.k4 (.k4 (.i 13 (.ptr 3 0 0) .n)))) [some (.row 6 [.agg [eS 1 vt a0.Places, eS 1 vt a0.Technicians, eS 4 eRoad a0.Roads, eS 3 eGrand a0.Grands, vi a0.Change, vi a0.Lasts]]), some (.row 7 [.agg [vi a2.Kind, vi a2.From, vi a2.To, vt a2.Grand, vt a2.Place, vt a2.Who, vi a2.Deposit]]), some (.row 1 [vi a2.From]), some (.row 7 [.agg [vi ((ix a1 0).Kind), vi ((ix a1 0).From), vi ((ix a1 0).To), vt ((ix a1 0).Grand), vt ((ix a1 0).Place), vt ((ix a1 0).Who), vi ((ix a1 0).Deposit)]])] ?_
   refine sj ?_
   refine rk 9 (.k4 (.d (.k4 (.i 51 (.own 2 0 1) (.i 53 (vi ((ix a1 0).From)) (.i 55 (vi ((ix a1 0).To)) (.i 57 (vi ((ix a1 0).To)) (.i 59 (vi a0.Change) .n)))))))) ?_
   refine cK h fun c5 h => ?_
   refine jo 60 (.bin .add false 57 59) (r_add rfl rfl c5) ?_
   refine rko 1 (.d (.k4 (.k4 (.k (.i 61 (.own 4 0 3) .n))))) [some (.row 6 [.agg [eS 1 vt a0.Places, eS 1 vt a0.Technicians, eS 4 eRoad a0.Roads, eS 3 eGrand a0.Grands, vi a0.Change, vi a0.Lasts]]), some (.row 7 [.agg [vi a2.Kind, vi a2.From, vi a2.To, vt a2.Grand, vt a2.Place, vt a2.Who, vi a2.Deposit]]), some (.row 1 [vi a2.From]), some (.row 7 [.agg [vi ((ix a1 0).Kind), vi ((ix a1 0).From), vi ((ix a1 0).To), vt ((ix a1 0).Grand), vt ((ix a1 0).Place), vt ((ix a1 0).Who), vi ((ix a1 0).Deposit)]]), some (.row 1 [vi ((ix a1 0).From), vi ((ix a1 0).To), vi (((ix a1 0).To) + a0.Change)])] ?_
   refine cK h fun c6 h => ?_
   refine jx 62 (.app 1 8 51 61) _ (ok_app_own (l := ([a2.From] : List Int)) (l2 := ([(ix a1 0).From, (ix a1 0).To, ((ix a1 0).To) + a0.Change] : List Int)) (e := vi) (u := .own 4 0 3) rfl rfl rfl rfl rfl c6) rfl rfl ?_
   refine jk 1 (.d (.k4 (.k4 (.i 11 (.own 5 0 ((([a2.From] : List Int) ++ ([(ix a1 0).From, (ix a1 0).To, ((ix a1 0).To) + a0.Change] : List Int)).length)) .n)))) ?_
   refine sj ?_
   refine rk 5 (.k4 (.k4 (.k (.i 64 (.p (.pointer none)) (.i 66 (vt ((ix a1 0).Place)) (.i 68 (vt a2.Place) .n)))))) ?_
   cases h
  refine q5 ?_
  exact Vs.intro (sc [1, 2] (by decide) (by kernel_rfl) (.cons rfl (.cons rfl .nil)) rfl rfl) ⟨(), rfl, h⟩
 ·rintro ⟨v11, v12⟩ h
  refine q7 ?_
  refine sk (.k4 (.k (.i 28 (vb (v11 != (0 : Int))) .n))) ?_
  refine tc h (fun c15 h => ?_) (fun c15 h => ?_)
  ·refine sk (.i 6 (vi 0) (.i 7 (vi v11) .n)) ?_
   refine q3 ?_
   have h := si h
   subst h
   exact DoneS.ret (S' := ⟨[(6, vi 0), (7, vi v11)], []⟩) (sc [] (by decide) (by kernel_rfl) ObRen.nil rfl rfl) rfl rfl
  refine sj ?_
  refine rk 1 (.k4 (.i 33 (eS 7 eItem a1) .n)) ?_
  refine jo 34 (.len 0 33) (ok_len_m rfl) ?_
  refine jo 35 (.bin .geq false 34 (ki 100)) (n_geq (i := a1.length) (j := 100) rfl rfl) ?_
  refine jk 1 (.d2 (.k4 (.i 32 (vb (decide (100 ≤ a1.length))) .n))) ?_
  refine tc h (fun c16 h => ?_) (fun c16 h => ?_)
  ·refine sk (.i 6 (vi 0) (.i 7 (vi 8) .n)) ?_
   refine q3 ?_
   have h := si h
   subst h
   exact DoneS.ret (S' := ⟨[(6, vi 0), (7, vi 8)], []⟩) (sc [] (by decide) (by kernel_rfl) ObRen.nil rfl rfl) rfl rfl
  refine q2 ?_
  refine q1 ?_
  refine sj ?_
  refine rk 2 (.k4 (.i 36 (.agg [eS 1 vt a0.Places, eS 1 vt a0.Technicians, eS 4 eRoad a0.Roads, eS 3 eGrand a0.Grands, vi a0.Change, vi a0.Lasts]) (.i 37 (.agg [vi a2.Kind, vi a2.From, vi a2.To, vt a2.Grand, vt a2.Place, vt a2.Who, vi a2.Deposit]) .n))) ?_
  refine bK h fun y13 hy13 h => ?_
  refine jc 38 [36, 37] (diary_checkItem_ok n a0 a2 y13 hy13) ?_
  refine jk 1 (.d (.k4 (.i 10 (vi y13) .n))) ?_
  refine sk (.k4 (.k (.i 40 (vb (y13 != (0 : Int))) .n))) ?_
  refine tc h (fun c17 h => ?_) (fun c17 h => ?_)
  ·refine sk (.i 6 (vi 0) (.i 7 (vi y13) .n)) ?_
   refine q3 ?_
   have h := si h
   subst h
   exact DoneS.ret (S' := ⟨[(6, vi 0), (7, vi y13)], []⟩) (sc [] (by decide) (by kernel_rfl) ObRen.nil rfl rfl) rfl rfl
  refine q2 ?_
  refine sko (.k4 (.i 11 (.own 4 0 1) .n)) [some (.row 6 [.agg [eS 1 vt a0.Places, eS 1 vt a0.Technicians, eS 4 eRoad a0.Roads, eS 3 eGrand a0.Grands, vi a0.Change, vi a0.Lasts]]), some (.row 7 [.agg [vi a2.Kind, vi a2.From, vi a2.To, vt a2.Grand, vt a2.Place, vt a2.Who, vi a2.Deposit]]), some (.mp (mpE vi (eM eArr2_Str vi) v12)), some (.row 7 [.agg [eS 1 vt a0.Places, eS 1 vt a0.Technicians, eS 4 eRoad a0.Roads, eS 3 eGrand a0.Grands, vi a0.Change, vi a0.Lasts, .map 2]]), some (.row 1 [vi a2.From])] ?_
  refine TriE.seqK h (fun (t : (List Int) × (List (Int × List (Arr2_Str × Int)))) => match t with | (v23, v24) => St.mk [(1, eS 7 eItem a1), (5, .ptr 0 0 0), (8, .ptr 2 0 0), (11, .own 3 0 v23.length)] [some (.row 7 [.agg [vi a2.Kind, vi a2.From, vi a2.To, vt a2.Grand, vt a2.Place, vt a2.Who, vi a2.Deposit]]), some (.mp (mpE vi (eM eArr2_Str vi) v24)), some (.row 7 [.agg [eS 1 vt a0.Places, eS 1 vt a0.Technicians, eS 4 eRoad a0.Roads, eS 3 eGrand a0.Grands, vi a0.Change, vi a0.Lasts, .map 1]]), some (.row 1 (List.map vi v23))]) ?_ ?_
  ·rintro ⟨v23, v24⟩ h
   refine sj ?_
   refine rk 1 (.k4 (.i 81 (.own 3 0 v23.length) .n)) ?_
   refine bK h fun y25 hy25 h => ?_
   refine jco (.tup []) 82 [81] (slices_Sort_int_ok n v23 y25 hy25) [3] rfl (.same (row_ren vi_frz _ _ _) .nil) (.same (row_ren vi_frz _ _ _) .nil) rfl ?_
   refine cK h fun c25 h => ?_
   refine RegJ.sees (S' := ⟨[(1, eS 7 eItem a1), (5, .ptr 0 0 0), (8, .ptr 2 0 0), (11, .own 3 0 y25.length), (81, .own 3 0 y25.length), (82, .tup [])], [some (.row 7 [.agg [vi a2.Kind, vi a2.From, vi a2.To, vt a2.Grand, vt a2.Place, vt a2.Who, vi a2.Deposit]]), some (.mp (mpE vi (eM eArr2_Str vi) v24)), some (.row 7 [.agg [eS 1 vt a0.Places, eS 1 vt a0.Technicians, eS 4 eRoad a0.Roads, eS 3 eGrand a0.Grands, vi a0.Change, vi a0.Lasts, .map 1]]), some (.row 1 (List.map vi y25))]⟩) (Sees.cov (Cov.mk2 (rs := [0, 1, 2, 3]) (by decide) rfl rfl (.cons (.inl rfl) (.cons (.inl rfl) (.cons (.inl rfl) (.cons (.inl (by rw [show v23.length = y25.length from of_decide_eq_true c25]; rfl)) (.cons (.inl (by rw [show v23.length = y25.length from of_decide_eq_true c25]; rfl)) (.cons (.inl rfl) .nil)))))) (.cons rfl (obRen_mp vi_frz (eM_frz eArr2_Str vi) rfl (.cons rfl (obRen_row vi_frz rfl .nil)))))) ?_
   refine jf (.k4 .n) ?_
   refine sj ?_
   refine rk 4 (.k4 (.i 84 (vi a2.To) (.i 86 (vi a2.From) .n))) ?_
   refine cK h fun c26 h => ?_
   refine jo 87 (.bin .sub false 84 86) (r_sub rfl rfl c26) ?_
   refine jk 1 (.d (.k4 (.i 16 (vi (a2.To - a2.From)) .n))) ?_
   refine TriE.seqK h (fun (_ : Unit) => St.mk [] []) ?_ ?_
   ·rintro ⟨⟩ h
    refine sk (.i 6 (vi 0) (.i 7 (vi 12) .n)) ?_
    refine q3 ?_
    have h := si h
    subst h
    exact DoneS.ret Sees.refl rfl rfl
   intro k9 h
   refine sj ?_
   refine rk 1 (.k3 (.d (.k (.i 88 (.own 3 0 y25.length) .n)))) ?_
   refine bK h fun y26 hy26 h => ?_
   refine jco (.own 3 0 y26.1) 89 [88] (slices_Compact_int_ok n y25 0 y25.length y26 hy26) [3] rfl (.same (row_ren vi_frz _ _ _) .nil) (.same (row_ren vi_frz _ _ _) .nil) rfl ?_
   refine cK h fun c27 h => ?_
   refine RegJ.sees (S' := ⟨[(1, eS 7 eItem a1), (5, .ptr 0 0 0), (8, .ptr 2 0 0), (16, vi (a2.To - a2.From)), (88, .own 3 0 y26.2.length), (89, .own 3 0 y26.1)], [some (.row 7 [.agg [vi a2.Kind, vi a2.From, vi a2.To, vt a2.Grand, vt a2.Place, vt a2.Who, vi a2.Deposit]]), some (.mp (mpE vi (eM eArr2_Str vi) v24)), some (.row 7 [.agg [eS 1 vt a0.Places, eS 1 vt a0.Technicians, eS 4 eRoad a0.Roads, eS 3 eGrand a0.Grands, vi a0.Change, vi a0.Lasts, .map 1]]), some (.row 1 (List.map vi y26.2))]⟩) (Sees.cov (Cov.mk2 (rs := [0, 1, 2, 3]) (by decide) rfl rfl (.cons (.inl rfl) (.cons (.inl rfl) (.cons (.inl rfl) (.cons (.inl rfl) (.cons (.inl (by rw [show y25.length = y26.2.length from of_decide_eq_true c27]; rfl)) (.cons (.inl rfl) .nil)))))) (.cons rfl (obRen_mp vi_frz (eM_frz eArr2_Str vi) rfl (.cons rfl (obRen_row vi_frz rfl .nil)))))) ?_
   refine jk 2 (.k4 (.d (.k (.i 90 (vi ((y26.1 : Nat) : Int)) (.i 91 (vi 0) .n))))) ?_
   refine q4 ?_
   refine ts (.k4 (.k2 (.i 91 (vi 0) .n))) ?_
   refine TriE.loopN h (fun (t : Nat × (List (Int × List (Arr2_Str × Int)))) => match t with | (v29, v30) => St.mk [(1, eS 7 eItem a1), (5, .ptr 0 0 0), (8, .ptr 2 0 0), (16, vi (a2.To - a2.From)), (89, .own 3 0 y26.1), (90, vi ((y26.1 : Nat) : Int)), (91, vi v29)] [some (.row 7 [.agg [vi a2.Kind, vi a2.From, vi a2.To, vt a2.Grand, vt a2.Place, vt a2.Who, vi a2.Deposit]]), some (.mp (mpE vi (eM eArr2_Str vi) v30)), some (.row 7 [.agg [eS 1 vt a0.Places, eS 1 vt a0.Technicians, eS 4 eRoad a0.Roads, eS 3 eGrand a0.Grands, vi a0.Change, vi a0.Lasts, .map 1]]), some (.row 1 (List.map vi y26.2))]) rfl ?_
   clear h
   rintro back ⟨v29, v30⟩ h
   dsimp only [diary_FreeFrom_L4] at h
   refine sj ?_
   refine jo 92 (.bin .lss false 91 90) (n_lss (i := v29) (j := y26.1) rfl rfl) ?_
   refine jf (.d (.k4 (.k3 (.i 92 (vb (decide (v29 < y26.1))) .n)))) ?_
   refine q1 ?_
   refine tc h (fun c28 h => ?_) (fun c28 h => ?_)
   ·refine q2 ?_
    refine TriE.seqK h (fun (v32 : (List (Int × List (Arr2_Str × Int)))) => St.mk [(1, eS 7 eItem a1), (5, .ptr 0 0 0), (8, .ptr 2 0 0), (16, vi (a2.To - a2.From)), (89, .own 3 0 y26.1), (90, vi ((y26.1 : Nat) : Int)), (91, vi v29)] [some (.row 7 [.agg [vi a2.Kind, vi a2.From, vi a2.To, vt a2.Grand, vt a2.Place, vt a2.Who, vi a2.Deposit]]), some (.mp (mpE vi (eM eArr2_Str vi) v32)), some (.row 7 [.agg [eS 1 vt a0.Places, eS 1 vt a0.Technicians, eS 4 eRoad a0.Roads, eS 3 eGrand a0.Grands, vi a0.Change, vi a0.Lasts, .map 1]]), some (.row 1 (List.map vi y26.2))]) ?_ ?_
    ·rintro v32 h
     refine q6 ?_
     refine cK h fun c34 h => ?_
     refine jo 122 (.bin .add false 91 (ki 1)) (r_addn (i := v29) (j := 1) rfl rfl c34) ?_
     refine jk 1 (.d (.k4 (.k2 (.i 91 (vi ((v29 + 1 : Nat) : Int)) .n)))) ?_
     exact Vs.intro sy ⟨(v29 + 1, v32), rfl, h⟩
    intro k8 h
    refine q4 ?_
    refine sj ?_
    refine jo 93 (.iaddr 1 89 91) (ok_iaddr_o0 (j := v29) rfl rfl rfl rfl c28) ?_
    refine cK h fun c29 h => ?_
    refine jo 94 (.load false 1 93) (ok_load_pm (l := y26.2) (e := vi) (v := vi (ix y26.2 v29)) rfl rfl c29 rfl) ?_
    refine jk 1 (.d2 (.k4 (.k3 (.i 18 (vi (ix y26.2 v29)) .n)))) ?_
    refine q1 ?_
    refine sj ?_
    refine rk 5 (.k4 (.k4 (.i 99 (vb (decide ((ix y26.2 v29) < a2.From))) .n))) ?_
    refine gj (vi (ix y26.2 v29)) 100 (.mov 18) 99 false rfl ?_
    refine gj (vi (a2.To - a2.From)) 101 (.mov 16) 99 false rfl ?_
    refine cK h fun c30 h => ?_
    refine gv 102 (.bin .add false 100 101) 99 false rfl (fun hg => (r_add rfl rfl (gor c30 hg))) (fun hg => (.cons hg (.cons hg .nil))) ?_
    refine gk (vb (decide ((1000000 : Int) < ((ix y26.2 v29) + (a2.To - a2.From))))) 103 (.bin .gtr false 102 (ki 1000000)) 99 false rfl (fun hg => (.cons hg (.cons rfl .nil))) ?_
    refine po 104 99 103 rfl rfl ?_
    refine jf (.d4 (.d (.k4 (.k4 (.i 104 (vb ((decide ((ix y26.2 v29) < a2.From)) || (decide ((1000000 : Int) < ((ix y26.2 v29) + (a2.To - a2.From)))))) .n))))) ?_
    refine tc h (fun c31 h => ?_) (fun c31 h => ?_)
    ·refine q5 ?_
     exact Vs.intro sy ⟨v30, rfl, h⟩
    refine q2 ?_
    refine sko (.k4 (.k4 (.i 19 (.ptr 4 0 0) .n))) [some (.row 7 [.agg [vi a2.Kind, vi a2.From, vi a2.To, vt a2.Grand, vt a2.Place, vt a2.Who, vi a2.Deposit]]), some (.mp (mpE vi (eM eArr2_Str vi) v30)), some (.row 7 [.agg [eS 1 vt a0.Places, eS 1 vt a0.Technicians, eS 4 eRoad a0.Roads, eS 3 eGrand a0.Grands, vi a0.Change, vi a0.Lasts, .map 1]]), some (.row 1 (List.map vi y26.2)), some (.row 7 [.agg [vi a2.Kind, vi a2.From, vi a2.To, vt a2.Grand, vt a2.Place, vt a2.Who, vi a2.Deposit]])] ?_
    refine sj ?_
    refine rk 3 (.k4 (.k4 (.k (.i 106 (vi (ix y26.2 v29)) (.i 107 (vi (ix y26.2 v29)) (.i 108 (vi (a2.To - a2.From)) .n)))))) ?_
    refine cK h fun c32 h => ?_
    refine jo 109 (.bin .add false 107 108) (r_add rfl rfl c32) ?_
    refine jko 4 (.d (.k4 (.k4 (.k .n)))) [some (.row 7 [.agg [vi a2.Kind, vi a2.From, vi a2.To, vt a2.Grand, vt a2.Place, vt a2.Who, vi a2.Deposit]]), some (.mp (mpE vi (eM eArr2_Str vi) v30)), some (.row 7 [.agg [eS 1 vt a0.Places, eS 1 vt a0.Technicians, eS 4 eRoad a0.Roads, eS 3 eGrand a0.Grands, vi a0.Change, vi a0.Lasts, .map 1]]), some (.row 1 (List.map vi y26.2)), some (.row 7 [.agg [vi a2.Kind, vi (ix y26.2 v29), vi ((ix y26.2 v29) + (a2.To - a2.From)), vt a2.Grand, vt a2.Place, vt a2.Who, vi a2.Deposit]])] ?_
    refine sj ?_
    refine rk 3 (.k4 (.k4 (.i 113 (.ptr 2 0 0) (.i 114 (eS 7 eItem a1) (.i 115 (.agg [vi a2.Kind, vi (ix y26.2 v29), vi ((ix y26.2 v29) + (a2.To - a2.From)), vt a2.Grand, vt a2.Place, vt a2.Who, vi a2.Deposit]) .n))))) ?_
    refine bK h fun y31 hy31 h => ?_
    refine jco (.tup [eS 7 eItem y31.2.2, vi y31.1]) 116 [113, 114, 115] (diary_plan_add_2_ok n a0.Places a0.Technicians a0.Roads a0.Grands a0.Change a0.Lasts v30 a1 (Item.mk a2.Kind (ix y26.2 v29) ((ix y26.2 v29) + (a2.To - a2.From)) a2.Grand a2.Place a2.Who a2.Deposit) y31 hy31) [2, 1] rfl (.cons rfl (.same (mp_ren vi_frz (eM_frz eArr2_Str vi) _ _) .nil)) (.cons rfl (.same (mp_ren vi_frz (eM_frz eArr2_Str vi) _ _) .nil)) rfl ?_
    refine jk 5 (.d (.k4 (.k4 (.i 21 (vi y31.1) .n)))) ?_
    refine sk (.k4 (.k4 (.i 120 (vb (y31.1 == (0 : Int))) .n))) ?_
    refine tc h (fun c33 h => ?_) (fun c33 h => ?_)
    ·refine sk (.i 6 (vi (ix y26.2 v29)) (.i 7 (vi 0) .n)) ?_
     refine q3 ?_
     have h := si h
     subst h
     exact DoneS.ret (S' := ⟨[(6, vi (ix y26.2 v29)), (7, vi 0)], []⟩) (sc [] (by decide) (by kernel_rfl) ObRen.nil rfl rfl) rfl rfl
    refine q2 ?_
    exact Vs.intro (sc [0, 1, 2, 3] (by decide) (by kernel_rfl) (.cons rfl (obRen_mp vi_frz (eM_frz eArr2_Str vi) rfl (.cons rfl (obRen_row vi_frz rfl .nil)))) rfl rfl) ⟨y31.2.1, rfl, h⟩
   refine q5 ?_
   exact Vs.intro (sc [] (by decide) (by kernel_rfl) ObRen.nil rfl rfl) ⟨(), rfl, h⟩
  intro k7 h
  refine sj ?_
  refine rk 1 (.k4 (.k (.i 45 (eS 7 eItem a1) .n))) ?_
  refine jo 46 (.len 0 45) (ok_len_m rfl) ?_
  refine jk 1 (.d (.k4 (.k2 (.i 46 (vi (a1.length : Int)) (.i 47 (vi 0) .n))))) ?_
  refine q4 ?_
  refine TriE.sees (S' := ⟨[(1, eS 7 eItem a1), (3, .ptr 0 0 0), (5, .ptr 1 0 0), (8, .ptr 3 0 0), (11, .own 4 0 ([a2.From] : List Int).length), (45, eS 7 eItem a1), (46, vi (a1.length : Int)), (47, vi 0)], [some (.row 6 [.agg [eS 1 vt a0.Places, eS 1 vt a0.Technicians, eS 4 eRoad a0.Roads, eS 3 eGrand a0.Grands, vi a0.Change, vi a0.Lasts]]), some (.row 7 [.agg [vi a2.Kind, vi a2.From, vi a2.To, vt a2.Grand, vt a2.Place, vt a2.Who, vi a2.Deposit]]), some (.mp (mpE vi (eM eArr2_Str vi) v12)), some (.row 7 [.agg [eS 1 vt a0.Places, eS 1 vt a0.Technicians, eS 4 eRoad a0.Roads, eS 3 eGrand a0.Grands, vi a0.Change, vi a0.Lasts, .map 2]]), some (.row 1 (List.map vi ([a2.From] : List Int)))]⟩) sy ?_
  refine TriE.loopN h (fun (t : Nat × (List Int) × (List (Int × List (Arr2_Str × Int)))) => match t with | (v17, v18, v19) => St.mk [(1, eS 7 eItem a1), (3, .ptr 0 0 0), (5, .ptr 1 0 0), (8, .ptr 3 0 0), (11, .own 4 0 v18.length), (45, eS 7 eItem a1), (46, vi (a1.length : Int)), (47, vi v17)] [some (.row 6 [.agg [eS 1 vt a0.Places, eS 1 vt a0.Technicians, eS 4 eRoad a0.Roads, eS 3 eGrand a0.Grands, vi a0.Change, vi a0.Lasts]]), some (.row 7 [.agg [vi a2.Kind, vi a2.From, vi a2.To, vt a2.Grand, vt a2.Place, vt a2.Who, vi a2.Deposit]]), some (.mp (mpE vi (eM eArr2_Str vi) v19)), some (.row 7 [.agg [eS 1 vt a0.Places, eS 1 vt a0.Technicians, eS 4 eRoad a0.Roads, eS 3 eGrand a0.Grands, vi a0.Change, vi a0.Lasts, .map 2]]), some (.row 1 (List.map vi v18))]) rfl ?_
  clear h
  rintro back ⟨v17, v18, v19⟩ h
  dsimp only [diary_FreeFrom_L3] at h
  refine sj ?_
  refine jo 48 (.bin .lss false 47 46) (n_lss (i := v17) (j := a1.length) rfl rfl) ?_
  refine jf (.d (.k4 (.k4 (.i 48 (vb (decide (v17 < a1.length))) .n)))) ?_
  refine q1 ?_
  refine tc h (fun c18 h => ?_) (fun c18 h => ?_)
  ·refine q2 ?_
   refine TriE.seqK h (fun (t : (List Int) × (List (Int × List (Arr2_Str × Int)))) => match t with | (v21, v22) => St.mk [(1, eS 7 eItem a1), (3, .ptr 0 0 0), (5, .ptr 1 0 0), (8, .ptr 3 0 0), (45, eS 7 eItem a1), (46, vi (a1.length : Int)), (47, vi v17), (11, .own 4 0 v21.length)] [some (.row 6 [.agg [eS 1 vt a0.Places, eS 1 vt a0.Technicians, eS 4 eRoad a0.Roads, eS 3 eGrand a0.Grands, vi a0.Change, vi a0.Lasts]]), some (.row 7 [.agg [vi a2.Kind, vi a2.From, vi a2.To, vt a2.Grand, vt a2.Place, vt a2.Who, vi a2.Deposit]]), some (.mp (mpE vi (eM eArr2_Str vi) v22)), some (.row 7 [.agg [eS 1 vt a0.Places, eS 1 vt a0.Technicians, eS 4 eRoad a0.Roads, eS 3 eGrand a0.Grands, vi a0.Change, vi a0.Lasts, .map 2]]), some (.row 1 (List.map vi v21))]) ?_ ?_
   ·rintro ⟨v21, v22⟩ h
    refine q6 ?_
    refine cK h fun c24 h => ?_
    refine jo 80 (.bin .add false 47 (ki 1)) (r_addn (i := v17) (j := 1) rfl rfl c24) ?_
    refine jk 1 (.d (.k4 (.k2 (.d (.k (.i 47 (vi ((v17 + 1 : Nat) : Int)) .n)))))) ?_
    exact Vs.intro sy ⟨(v17 + 1, v21, v22), rfl, h⟩
   intro k6 h
   refine q4 ?_
   refine sj ?_
   refine jo 49 (.iaddr 7 45 47) (ok_iaddr_m (j := v17) rfl rfl rfl c18) ?_
   refine jo 50 (.load true 7 49) (ok_load_fm (v := .agg [vi ((ix a1 v17).Kind), vi ((ix a1 v17).From), vi ((ix a1 v17).To), vt ((ix a1 v17).Grand), vt ((ix a1 v17).Place), vt ((ix a1 v17).Who), vi ((ix a1 v17).Deposit)]) rfl c18 rfl) ?_
   refine jko 2 (.d2 (.k4 (.k4 (.i 13 (.ptr 5 0 0) .n)))) [some (.row 6 [.agg [eS 1 vt a0.Places, eS 1 vt a0.Technicians, eS 4 eRoad a0.Roads, eS 3 eGrand a0.Grands, vi a0.Change, vi a0.Lasts]]), some (.row 7 [.agg [vi a2.Kind, vi a2.From, vi a2.To, vt a2.Grand, vt a2.Place, vt a2.Who, vi a2.Deposit]]), some (.mp (mpE vi (eM eArr2_Str vi) v19)), some (.row 7 [.agg [eS 1 vt a0.Places, eS 1 vt a0.Technicians, eS 4 eRoad a0.Roads, eS 3 eGrand a0.Grands, vi a0.Change, vi a0.Lasts, .map 2]]), some (.row 1 (List.map vi v18)), some (.row 7 [.agg [vi ((ix a1 v17).Kind), vi ((ix a1 v17).From), vi ((ix a1 v17).To), vt ((ix a1 v17).Grand), vt ((ix a1 v17).Place), vt ((ix a1 v17).Who), vi ((ix a1 v17).Deposit)]])] ?_
   refine sj ?_
   refine rk 9 (.k4 (.d (.k4 (.i 51 (.own 4 0 v18.length) (.i 53 (vi ((ix a1 v17).From)) (.i 55 (vi ((ix a1 v17).To)) (.i 57 (vi ((ix a1 v17).To)) (.i 59 (vi a0.Change) .n)))))))) ?_
   refine cK h fun c19 h => ?_
   refine jo 60 (.bin .add false 57 59) (r_add rfl rfl c19) ?_
   refine rko 1 (.d (.k4 (.k4 (.k (.i 61 (.own 6 0 3) .n))))) [some (.row 6 [.agg [eS 1 vt a0.Places, eS 1 vt a0.Technicians, eS 4 eRoad a0.Roads, eS 3 eGrand a0.Grands, vi a0.Change, vi a0.Lasts]]), some (.row 7 [.agg [vi a2.Kind, vi a2.From, vi a2.To, vt a2.Grand, vt a2.Place, vt a2.Who, vi a2.Deposit]]), some (.mp (mpE vi (eM eArr2_Str vi) v19)), some (.row 7 [.agg [eS 1 vt a0.Places, eS 1 vt a0.Technicians, eS 4 eRoad a0.Roads, eS 3 eGrand a0.Grands, vi a0.Change, vi a0.Lasts, .map 2]]), some (.row 1 (List.map vi v18)), some (.row 7 [.agg [vi ((ix a1 v17).Kind), vi ((ix a1 v17).From), vi ((ix a1 v17).To), vt ((ix a1 v17).Grand), vt ((ix a1 v17).Place), vt ((ix a1 v17).Who), vi ((ix a1 v17).Deposit)]]), some (.row 1 [vi ((ix a1 v17).From), vi ((ix a1 v17).To), vi (((ix a1 v17).To) + a0.Change)])] ?_
   refine cK h fun c20 h => ?_
   refine jx 62 (.app 1 8 51 61) _ (ok_app_own (l := v18) (l2 := ([(ix a1 v17).From, (ix a1 v17).To, ((ix a1 v17).To) + a0.Change] : List Int)) (e := vi) (u := .own 6 0 3) rfl rfl rfl rfl rfl c20) rfl rfl ?_
   refine jk 1 (.d (.k4 (.k4 (.i 11 (.own 7 0 ((v18 ++ ([(ix a1 v17).From, (ix a1 v17).To, ((ix a1 v17).To) + a0.Change] : List Int)).length)) .n)))) ?_
   refine sj ?_
   refine rk 5 (.k4 (.k4 (.k (.i 64 (.ptr 3 0 0) (.i 66 (vt ((ix a1 v17).Place)) (.i 68 (vt a2.Place) .n)))))) ?_
   refine bK h fun y20 hy20 h => ?_
   refine jco (.tup [vi y20.1, vb y20.2.1]) 69 [64, 66, 68, (ki 1)] (diary_plan_distance_ok n a0.Places a0.Technicians a0.Roads a0.Grands a0.Change a0.Lasts v19 ((ix a1 v17).Place) a2.Place 1 y20 hy20) [3, 2] rfl (.cons rfl (.same (mp_ren vi_frz (eM_frz eArr2_Str vi) _ _) .nil)) (.cons rfl (.same (mp_ren vi_frz (eM_frz eArr2_Str vi) _ _) .nil)) rfl ?_
   refine jk 5 (.d (.k4 (.k4 (.k (.i 14 (vi y20.1) (.i 15 (vb y20.2.1) .n)))))) ?_
   refine sk (.k4 (.k4 (.k2 (.i 72 (vb y20.2.1) .n)))) ?_
   refine tc h (fun c21 h => ?_) (fun c21 h => ?_)
   ·refine q6 ?_
    refine rk 4 (.k4 (.k3 (.i 73 (.own 7 0 ((v18 ++ ([(ix a1 v17).From, (ix a1 v17).To, ((ix a1 v17).To) + a0.Change] : List Int)).length)) (.i 75 (vi ((ix a1 v17).To)) (.i 76 (vi y20.1) .n))))) ?_
    refine cK h fun c22 h => ?_
    refine jo 77 (.bin .add false 75 76) (r_add rfl rfl c22) ?_
    refine rko 1 (.d (.k4 (.k4 (.i 78 (.own 8 0 1) .n)))) [some (.row 6 [.agg [eS 1 vt a0.Places, eS 1 vt a0.Technicians, eS 4 eRoad a0.Roads, eS 3 eGrand a0.Grands, vi a0.Change, vi a0.Lasts]]), some (.row 7 [.agg [vi a2.Kind, vi a2.From, vi a2.To, vt a2.Grand, vt a2.Place, vt a2.Who, vi a2.Deposit]]), some (.mp (mpE vi (eM eArr2_Str vi) y20.2.2)), some (.row 7 [.agg [eS 1 vt a0.Places, eS 1 vt a0.Technicians, eS 4 eRoad a0.Roads, eS 3 eGrand a0.Grands, vi a0.Change, vi a0.Lasts, .map 2]]), none, some (.row 7 [.agg [vi ((ix a1 v17).Kind), vi ((ix a1 v17).From), vi ((ix a1 v17).To), vt ((ix a1 v17).Grand), vt ((ix a1 v17).Place), vt ((ix a1 v17).Who), vi ((ix a1 v17).Deposit)]]), some (.row 1 [vi ((ix a1 v17).From), vi ((ix a1 v17).To), vi (((ix a1 v17).To) + a0.Change)]), some (.row 1 (List.map vi (v18 ++ ([(ix a1 v17).From, (ix a1 v17).To, ((ix a1 v17).To) + a0.Change] : List Int)))), some (.row 1 [vi (((ix a1 v17).To) + y20.1)])] ?_
    refine cK h fun c23 h => ?_
    refine jx 79 (.app 1 8 73 78) _ (ok_app_own (l := (v18 ++ ([(ix a1 v17).From, (ix a1 v17).To, ((ix a1 v17).To) + a0.Change] : List Int))) (l2 := ([((ix a1 v17).To) + y20.1] : List Int)) (e := vi) (u := .own 8 0 1) rfl rfl rfl rfl rfl c23) rfl rfl ?_
    refine jk 1 (.d (.k4 (.k3 (.i 11 (.own 9 0 (((v18 ++ ([(ix a1 v17).From, (ix a1 v17).To, ((ix a1 v17).To) + a0.Change] : List Int)) ++ ([((ix a1 v17).To) + y20.1] : List Int)).length)) .n)))) ?_
    exact Vs.intro (sc [0, 1, 2, 3, 9] (by decide) (by kernel_rfl) (.cons rfl (.cons rfl (obRen_mp vi_frz (eM_frz eArr2_Str vi) rfl (.cons rfl (obRen_row vi_frz rfl .nil))))) rfl rfl) ⟨(((v18 ++ ([(ix a1 v17).From, (ix a1 v17).To, ((ix a1 v17).To) + a0.Change] : List Int)) ++ ([((ix a1 v17).To) + y20.1] : List Int)), y20.2.2), rfl, h⟩
   refine q2 ?_
   exact Vs.intro (sc [0, 1, 2, 3, 7] (by decide) (by kernel_rfl) (.cons rfl (.cons rfl (obRen_mp vi_frz (eM_frz eArr2_Str vi) rfl (.cons rfl (obRen_row vi_frz rfl .nil))))) rfl rfl) ⟨((v18 ++ ([(ix a1 v17).From, (ix a1 v17).To, ((ix a1 v17).To) + a0.Change] : List Int)), y20.2.2), rfl, h⟩
  refine q5 ?_
  exact Vs.intro (sc [1, 2, 3, 4] (by decide) (by kernel_rfl) (.cons rfl (obRen_mp vi_frz (eM_frz eArr2_Str vi) rfl (.cons rfl (obRen_row vi_frz rfl .nil)))) rfl rfl) ⟨(v18, v19), rfl, h⟩
 intro k1 k5 h
 refine q6 ?_
 refine rk 2 (.k3 (.i 23 (.agg [eS 1 vt a0.Places, eS 1 vt a0.Technicians, eS 4 eRoad a0.Roads, eS 3 eGrand a0.Grands, vi a0.Change, vi a0.Lasts]) (.i 24 (eS 7 eItem a1) .n))) ?_
 refine bK h fun y1 hy1 h => ?_
 rcases y1 with y1 | y1
 ·dsimp only at h
  refine jc 25 [23, 24] (diary_read_ok n a0 a1 (Sum.inl y1) hy1) ?_
  refine jk 5 (.d (.k3 (.i 8 (.p (.pointer none)) (.i 9 (vi y1) .n)))) ?_
  exact Vs.intro Sees.refl (.inl ⟨y1, rfl, h⟩)
 dsimp only at h
 refine jco (.tup [.ptr 3 0 0, vi y1.1]) 25 [23, 24] (diary_read_ok n a0 a1 (Sum.inr y1) hy1) [] rfl ObsRen.nil (.same (mp_ren vi_frz (eM_frz eArr2_Str vi) _ _) (.cons rfl .nil)) rfl ?_
 refine jk 5 (.d (.k3 (.i 8 (.ptr 3 0 0) (.i 9 (vi y1.1) .n)))) ?_
 exact Vs.intro Sees.refl (.inr ⟨(y1.1, y1.2), rfl, h⟩)
theorem agraffelaw09_short_ok (n : Nat) (a0 : List Str) (a1 : Int) (a2 : Int) (r : Bool) (h : agraffelaw09_short n a0 a1 a2 = some r) : FnL Try.prog 26 [eS 1 vt a0, vi a1, vi a2] [] (vb r) [] := by
 dsimp only [agraffelaw09_short] at h
 refine fo [6] Try.call26 Try.func26 rfl ?_
 refine sk .a ?_
 refine TriE.seqK h (fun (_ : Unit) => St.mk [(0, eS 1 vt a0), (1, vi a1), (2, vi a2)] []) ?_ ?_
 ·rintro ⟨⟩ h
  refine sj ?_
  refine rk 1 (.k3 (.i 20 (eS 1 vt a0) .n)) ?_
  refine jo 21 (.len 0 20) (ok_len_m rfl) ?_
  refine rk 3 (.d (.k (.d (.k (.i 24 (vb (decide ((a0.length : Int) ≤ a1))) .n))))) ?_
  refine gj (eS 1 vt a0) 25 (.mov 0) 24 false rfl ?_
  refine gv 26 (.len 0 25) 24 false rfl (fun hg => (ok_len_m rfl)) (fun hg => (.cons hg .nil)) ?_
  refine gj (vi a2) 27 (.mov 2) 24 false rfl ?_
  refine gk (vb (decide (a2 < (a0.length : Int)))) 28 (.bin .gtr false 26 27) 24 false rfl (fun hg => (.cons hg (.cons hg .nil))) ?_
  refine gk (vb (decide (a2 < (a0.length : Int)))) 29 (.mov 28) 24 false rfl (fun hg => (.cons hg .nil)) ?_
  refine gj (eS 1 vt a0) 30 (.mov 0) 29 true rfl ?_
  refine gv 31 (.len 0 30) 29 true rfl (fun hg => (ok_len_m rfl)) (fun hg => (.cons hg .nil)) ?_
  refine gj (vi a2) 32 (.mov 2) 29 true rfl ?_
  refine cK h fun c4 h => ?_
  refine gv 33 (.bin .add false 32 (ki 3)) 29 true rfl (fun hg => (r_add rfl rfl (gor c4 hg))) (fun hg => (.cons hg (.cons rfl .nil))) ?_
  refine gk (vb (decide ((a0.length : Int) ≤ (a2 + 3)))) 34 (.bin .leq false 31 33) 29 true rfl (fun hg => (.cons hg (.cons hg .nil))) ?_
  refine RegJ.op (Op1.andg (g := !(decide ((a0.length : Int) ≤ a1))) (cy (IG 35 (.pick 29 34 (.c (.p (.bool false)))) 24 false)) rfl rfl rfl (fun hg => by first | exact hokA2 hg | exact hokA3 hg | exact hokA1 | exact hokA0 | (rw [hg]; simp) | simp_all)) ?_
  refine po 36 24 35 rfl rfl ?_
  refine jk 1 (.i 6 (vb ((decide ((a0.length : Int) ≤ a1)) || ((decide (a2 < (a0.length : Int))) && (decide ((a0.length : Int) ≤ (a2 + 3)))))) .n) ?_
  refine q3 ?_
  have h := si h
  subst h
  exact DoneS.ret Sees.refl rfl rfl
 intro k1 h
 refine sk (.k3 (.i 7 (vi 0) .n)) ?_
 refine q4 ?_
 refine ts (.k3 (.i 7 (vi 0) .n)) ?_
 refine TriE.loopN h (fun (v1 : Nat) => St.mk [(0, eS 1 vt a0), (1, vi a1), (2, vi a2), (7, vi v1)] []) rfl ?_
 clear h
 rintro back v1 h
 dsimp only [agraffelaw09_short_L1] at h
 refine q1 ?_
 refine sj ?_
 refine rk 2 (.k4 (.i 8 (vi v1) (.i 9 (eS 1 vt a0) .n))) ?_
 refine jo 10 (.len 0 9) (ok_len_m rfl) ?_
 refine jo 11 (.bin .lss false 8 10) (n_lss (i := v1) (j := a0.length) rfl rfl) ?_
 refine jf (.d2 (.k4 (.i 11 (vb (decide (v1 < a0.length))) .n))) ?_
 refine tc h (fun c1 h => ?_) (fun c1 h => ?_)
 ·refine q2 ?_
  refine q7 ?_
  refine sj ?_
  refine rk 2 (.k4 (.i 14 (eS 1 vt a0) (.i 15 (vi v1) .n))) ?_
  refine jo 16 (.iaddr 1 14 15) (ok_iaddr_m (j := v1) rfl rfl rfl c1) ?_
  refine jo 17 (.load false 1 16) (ok_load_fm (v := vt (ix a0 v1)) rfl c1 rfl) ?_
  refine jo 18 (.len 1 17) (ok_len_t rfl) ?_
  refine jo 19 (.bin .gtr false 18 (ki 30)) (n_gtr (i := (ix a0 v1).length) (j := 30) rfl rfl) ?_
  refine jf (.d4 (.k4 (.i 19 (vb (decide (30 < ((ix a0 v1).length)))) .n))) ?_
  refine tc h (fun c2 h => ?_) (fun c2 h => ?_)
  ·refine sk (.i 6 (vb false) .n) ?_
   refine q3 ?_
   have h := si h
   subst h
   exact DoneS.ret Sees.refl rfl rfl
  refine q2 ?_
  refine q6 ?_
  refine rk 1 (.k3 (.i 12 (vi v1) .n)) ?_
  refine cK h fun c3 h => ?_
  refine jo 13 (.bin .add false 12 (ki 1)) (r_addn (i := v1) (j := 1) rfl rfl c3) ?_
  refine jk 1 (.d (.k3 (.i 7 (vi ((v1 + 1 : Nat) : Int)) .n))) ?_
  exact Vs.intro sy ⟨(v1 + 1), rfl, h⟩
 refine q5 ?_
 exact Vs.intro sy ⟨(), rfl, h⟩
set_option maxHeartbeats 1000000 in
theorem agraffelaw09_Light_ok (n : Nat) (a0 : Diary) (r : Bool) (h : agraffelaw09_Light n a0 = some r) : FnL Try.prog 14 [.agg [eS 1 vt a0.Places, eS 1 vt a0.Technicians, eS 4 eRoad a0.Roads, eS 3 eGrand a0.Grands, vi a0.Change, vi a0.Lasts]] [] (vb r) [] := by
 dsimp only [agraffelaw09_Light] at h
 refine fo [2] Try.call14 Try.func14 rfl ?_
 refine sko (.i 1 (.ptr 0 0 0) .n) [some (.row 6 [.agg [eS 1 vt a0.Places, eS 1 vt a0.Technicians, eS 4 eRoad a0.Roads, eS 3 eGrand a0.Grands, vi a0.Change, vi a0.Lasts]])] ?_
 refine q1 ?_
 refine sj ?_
 refine rk 2 (.k (.i 6 (eS 1 vt a0.Places) .n)) ?_
 refine bK h fun y1 hy1 h => ?_
 refine jc 7 [6, (ki 6), (ki 20)] (agraffelaw09_short_ok n a0.Places 6 20 y1 hy1) ?_
 refine rk 2 (.d (.k (.i 9 (vb (!y1)) .n))) ?_
 refine gj (.ptr 0 0 1) 10 (.faddr 1 1) 9 false rfl ?_
 refine gk (eS 1 vt a0.Technicians) 11 (.load false 1 10) 9 false rfl (fun hg => (.cons hg .nil)) ?_
 refine bK h fun y2 hy2 h => ?_
 refine gc 12 [11, (ki 4), (ki 12)] 9 false rfl (fun hg => agraffelaw09_short_ok n a0.Technicians 4 12 y2 (gcall_some hy2 hg)) (fun hg => (.cons rfl (.cons hg (.cons rfl (.cons rfl .nil))))) (fun hg => by kernel_rfl) ?_
 refine gk (vb (!y2)) 13 (.un .not 12) 9 false rfl (fun hg => (.cons hg .nil)) ?_
 refine po 14 9 13 rfl rfl ?_
 refine rk 1 (.d4 (.d (.k (.i 15 (vb ((!y1) || (!y2))) .n)))) ?_
 refine gj (.ptr 0 0 2) 16 (.faddr 2 1) 15 false rfl ?_
 refine gk (eS 4 eRoad a0.Roads) 17 (.load false 1 16) 15 false rfl (fun hg => (.cons hg .nil)) ?_
 refine gv 18 (.len 0 17) 15 false rfl (fun hg => (ok_len_m rfl)) (fun hg => (.cons hg .nil)) ?_
 refine gv 19 (.bin .gtr false 18 (ki 8)) 15 false rfl (fun hg => (n_gtr (i := a0.Roads.length) (j := 8) rfl rfl)) (fun hg => (.cons hg (.cons rfl .nil))) ?_
 refine gk (vb (decide (8 < a0.Roads.length))) 20 (.mov 19) 15 false rfl (fun hg => (.cons hg .nil)) ?_
 refine gj (.ptr 0 0 2) 21 (.faddr 2 1) 20 true rfl ?_
 refine gk (eS 4 eRoad a0.Roads) 22 (.load false 1 21) 20 true rfl (fun hg => (.cons hg .nil)) ?_
 refine gv 23 (.len 0 22) 20 true rfl (fun hg => (ok_len_m rfl)) (fun hg => (.cons hg .nil)) ?_
 refine gv 24 (.bin .leq false 23 (ki 60)) 20 true rfl (fun hg => (n_leq (i := a0.Roads.length) (j := 60) rfl rfl)) (fun hg => (.cons hg (.cons rfl .nil))) ?_
 refine RegJ.op (Op1.andg (g := !((!y1) || (!y2))) (cy (IG 25 (.pick 20 24 (.c (.p (.bool false)))) 15 false)) rfl rfl rfl (fun hg => by first | exact hokA2 hg | exact hokA3 hg | exact hokA1 | exact hokA0 | (rw [hg]; simp) | simp_all)) ?_
 refine po 26 15 25 rfl rfl ?_
 refine rk 1 (.d4 (.d4 (.d3 (.k (.i 27 (vb (((!y1) || (!y2)) || ((decide (8 < a0.Roads.length)) && (decide (a0.Roads.length ≤ 60))))) .n))))) ?_
 refine gj (.ptr 0 0 2) 28 (.faddr 2 1) 27 false rfl ?_
 refine gk (eS 4 eRoad a0.Roads) 29 (.load false 1 28) 27 false rfl (fun hg => (.cons hg .nil)) ?_
 refine gv 30 (.len 0 29) 27 false rfl (fun hg => (ok_len_m rfl)) (fun hg => (.cons hg .nil)) ?_
 refine gv 31 (.bin .gtr false 30 (ki 63)) 27 false rfl (fun hg => (n_gtr (i := a0.Roads.length) (j := 63) rfl rfl)) (fun hg => (.cons hg (.cons rfl .nil))) ?_
 refine po 32 27 31 rfl rfl ?_
 refine rk 1 (.d4 (.d (.k (.i 33 (vb ((((!y1) || (!y2)) || ((decide (8 < a0.Roads.length)) && (decide (a0.Roads.length ≤ 60)))) || (decide (63 < a0.Roads.length)))) .n)))) ?_
 refine gj (.ptr 0 0 3) 34 (.faddr 3 1) 33 false rfl ?_
 refine gk (eS 3 eGrand a0.Grands) 35 (.load false 1 34) 33 false rfl (fun hg => (.cons hg .nil)) ?_
 refine gv 36 (.len 0 35) 33 false rfl (fun hg => (ok_len_m rfl)) (fun hg => (.cons hg .nil)) ?_
 refine gv 37 (.bin .gtr false 36 (ki 4)) 33 false rfl (fun hg => (n_gtr (i := a0.Grands.length) (j := 4) rfl rfl)) (fun hg => (.cons hg (.cons rfl .nil))) ?_
 refine gk (vb (decide (4 < a0.Grands.length))) 38 (.mov 37) 33 false rfl (fun hg => (.cons hg .nil)) ?_
 refine gj (.ptr 0 0 3) 39 (.faddr 3 1) 38 true rfl ?_
 refine gk (eS 3 eGrand a0.Grands) 40 (.load false 1 39) 38 true rfl (fun hg => (.cons hg .nil)) ?_
 refine gv 41 (.len 0 40) 38 true rfl (fun hg => (ok_len_m rfl)) (fun hg => (.cons hg .nil)) ?_
 refine gv 42 (.bin .leq false 41 (ki 12)) 38 true rfl (fun hg => (n_leq (i := a0.Grands.length) (j := 12) rfl rfl)) (fun hg => (.cons hg (.cons rfl .nil))) ?_
 refine RegJ.op (Op1.andg (g := !((((!y1) || (!y2)) || ((decide (8 < a0.Roads.length)) && (decide (a0.Roads.length ≤ 60)))) || (decide (63 < a0.Roads.length)))) (cy (IG 43 (.pick 38 42 (.c (.p (.bool false)))) 33 false)) rfl rfl rfl (fun hg => by first | exact hokA2 hg | exact hokA3 hg | exact hokA1 | exact hokA0 | (rw [hg]; simp) | simp_all)) ?_
 refine po 44 33 43 rfl rfl ?_
 refine rk 1 (.d4 (.d4 (.d3 (.k (.i 45 (vb (((((!y1) || (!y2)) || ((decide (8 < a0.Roads.length)) && (decide (a0.Roads.length ≤ 60)))) || (decide (63 < a0.Roads.length))) || ((decide (4 < a0.Grands.length)) && (decide (a0.Grands.length ≤ 12))))) .n))))) ?_
 refine gj (.ptr 0 0 3) 46 (.faddr 3 1) 45 false rfl ?_
 refine gk (eS 3 eGrand a0.Grands) 47 (.load false 1 46) 45 false rfl (fun hg => (.cons hg .nil)) ?_
 refine gv 48 (.len 0 47) 45 false rfl (fun hg => (ok_len_m rfl)) (fun hg => (.cons hg .nil)) ?_
 refine gv 49 (.bin .gtr false 48 (ki 15)) 45 false rfl (fun hg => (n_gtr (i := a0.Grands.length) (j := 15) rfl rfl)) (fun hg => (.cons hg (.cons rfl .nil))) ?_
 refine po 50 45 49 rfl rfl ?_
 refine jf (.d4 (.d (.k (.i 50 (vb ((((((!y1) || (!y2)) || ((decide (8 < a0.Roads.length)) && (decide (a0.Roads.length ≤ 60)))) || (decide (63 < a0.Roads.length))) || ((decide (4 < a0.Grands.length)) && (decide (a0.Grands.length ≤ 12)))) || (decide (15 < a0.Grands.length)))) .n)))) ?_
 refine tc h (fun c1 h => ?_) (fun c1 h => ?_)
 ·refine sk (.i 2 (vb false) .n) ?_
  refine q3 ?_
  have h := si h
  subst h
  exact DoneS.ret (S' := ⟨[(2, vb false)], []⟩) (sc [] (by decide) (by kernel_rfl) ObRen.nil rfl rfl) rfl rfl
 refine q2 ?_
 refine TriE.seqK h (fun (_ : Unit) => St.mk [(1, .ptr 0 0 0)] [some (.row 6 [.agg [eS 1 vt a0.Places, eS 1 vt a0.Technicians, eS 4 eRoad a0.Roads, eS 3 eGrand a0.Grands, vi a0.Change, vi a0.Lasts]])]) ?_ ?_
 ·rintro ⟨⟩ h
  refine TriE.seqK h (fun (_ : Unit) => St.mk [] []) ?_ ?_
  ·rintro ⟨⟩ h
   refine sk (.i 2 (vb true) .n) ?_
   refine q3 ?_
   have h := si h
   subst h
   exact DoneS.ret Sees.refl rfl rfl
  intro k2 h
  refine sk (.k (.i 4 (vi 0) .n)) ?_
  refine q4 ?_
  refine ts (.k (.i 4 (vi 0) .n)) ?_
  refine TriE.loopN h (fun (v4 : Nat) => St.mk [(1, .ptr 0 0 0), (4, vi v4)] [some (.row 6 [.agg [eS 1 vt a0.Places, eS 1 vt a0.Technicians, eS 4 eRoad a0.Roads, eS 3 eGrand a0.Grands, vi a0.Change, vi a0.Lasts]])]) rfl ?_
  clear h
  rintro back v4 h
  dsimp only [agraffelaw09_Light_L2] at h
  refine q1 ?_
  refine sj ?_
  refine rk 3 (.k2 (.i 76 (vi v4) (.i 78 (eS 3 eGrand a0.Grands) .n))) ?_
  refine jo 79 (.len 0 78) (ok_len_m rfl) ?_
  refine jo 80 (.bin .lss false 76 79) (n_lss (i := v4) (j := a0.Grands.length) rfl rfl) ?_
  refine jf (.d2 (.k2 (.i 80 (vb (decide (v4 < a0.Grands.length))) .n))) ?_
  refine tc h (fun c5 h => ?_) (fun c5 h => ?_)
  ·refine q2 ?_
   refine q7 ?_
   refine sj ?_
   refine rk 3 (.k2 (.i 84 (eS 3 eGrand a0.Grands) (.i 85 (vi v4) .n))) ?_
   refine jo 86 (.iaddr 3 84 85) (ok_iaddr_m (j := v4) rfl rfl rfl c5) ?_
   refine rk 1 (.d (.k2 (.i 87 (.fptr 3 (List.map eGrand a0.Grands) v4 0) .n))) ?_
   refine jo 88 (.load false 1 87) (ok_load_fm (v := vt ((ix a0.Grands v4).Name)) rfl c5 rfl) ?_
   refine jo 89 (.len 1 88) (ok_len_t rfl) ?_
   refine jo 90 (.bin .gtr false 89 (ki 30)) (n_gtr (i := ((ix a0.Grands v4).Name).length) (j := 30) rfl rfl) ?_
   refine rk 1 (.d3 (.k2 (.i 91 (vb (decide (30 < (((ix a0.Grands v4).Name).length)))) .n))) ?_
   refine gj (.ptr 0 0 3) 92 (.faddr 3 1) 91 false rfl ?_
   refine gk (eS 3 eGrand a0.Grands) 93 (.load false 1 92) 91 false rfl (fun hg => (.cons hg .nil)) ?_
   refine gj (vi v4) 94 (.mov 4) 91 false rfl ?_
   refine gv 95 (.iaddr 3 93 94) 91 false rfl (fun hg => (ok_iaddr_m (j := v4) rfl rfl rfl c5)) (fun hg => (.cons hg (.cons hg .nil))) ?_
   refine gk (.fptr 3 (List.map eGrand a0.Grands) v4 1) 96 (.faddr 1 95) 91 false rfl (fun hg => (.cons hg .nil)) ?_
   refine gv 97 (.load false 1 96) 91 false rfl (fun hg => (ok_load_fm (v := vt ((ix a0.Grands v4).Place)) rfl c5 rfl)) (fun hg => (.cons hg .nil)) ?_
   refine gv 98 (.len 1 97) 91 false rfl (fun hg => (ok_len_t rfl)) (fun hg => (.cons hg .nil)) ?_
   refine gv 99 (.bin .gtr false 98 (ki 30)) 91 false rfl (fun hg => (n_gtr (i := ((ix a0.Grands v4).Place).length) (j := 30) rfl rfl)) (fun hg => (.cons hg (.cons rfl .nil))) ?_
   refine po 100 91 99 rfl rfl ?_
   refine jf (.d4 (.d4 (.d (.k2 (.i 100 (vb ((decide (30 < (((ix a0.Grands v4).Name).length))) || (decide (30 < (((ix a0.Grands v4).Place).length))))) .n))))) ?_
   refine tc h (fun c6 h => ?_) (fun c6 h => ?_)
   ·refine sk (.i 2 (vb false) .n) ?_
    refine q3 ?_
    have h := si h
    subst h
    exact DoneS.ret (S' := ⟨[(2, vb false)], []⟩) (sc [] (by decide) (by kernel_rfl) ObRen.nil rfl rfl) rfl rfl
   refine q2 ?_
   refine q6 ?_
   refine rk 1 (.k (.i 81 (vi v4) .n)) ?_
   refine cK h fun c7 h => ?_
   refine jo 82 (.bin .add false 81 (ki 1)) (r_addn (i := v4) (j := 1) rfl rfl c7) ?_
   refine jk 1 (.d (.k (.i 4 (vi ((v4 + 1 : Nat) : Int)) .n))) ?_
   exact Vs.intro sy ⟨(v4 + 1), rfl, h⟩
  refine q5 ?_
  exact Vs.intro (sc [] (by decide) (by kernel_rfl) ObRen.nil rfl rfl) ⟨(), rfl, h⟩
 intro k1 h
 refine sk (.k (.i 3 (vi 0) .n)) ?_
 refine q4 ?_
 refine ts (.k (.i 3 (vi 0) .n)) ?_
 refine TriE.loopN h (fun (v3 : Nat) => St.mk [(1, .ptr 0 0 0), (3, vi v3)] [some (.row 6 [.agg [eS 1 vt a0.Places, eS 1 vt a0.Technicians, eS 4 eRoad a0.Roads, eS 3 eGrand a0.Grands, vi a0.Change, vi a0.Lasts]])]) rfl ?_
 clear h
 rintro back v3 h
 dsimp only [agraffelaw09_Light_L1] at h
 refine q1 ?_
 refine sj ?_
 refine rk 3 (.k2 (.i 51 (vi v3) (.i 53 (eS 4 eRoad a0.Roads) .n))) ?_
 refine jo 54 (.len 0 53) (ok_len_m rfl) ?_
 refine jo 55 (.bin .lss false 51 54) (n_lss (i := v3) (j := a0.Roads.length) rfl rfl) ?_
 refine jf (.d2 (.k2 (.i 55 (vb (decide (v3 < a0.Roads.length))) .n))) ?_
 refine tc h (fun c2 h => ?_) (fun c2 h => ?_)
 ·refine q2 ?_
  refine q7 ?_
  refine sj ?_
  refine rk 3 (.k2 (.i 59 (eS 4 eRoad a0.Roads) (.i 60 (vi v3) .n))) ?_
  refine jo 61 (.iaddr 4 59 60) (ok_iaddr_m (j := v3) rfl rfl rfl c2) ?_
  refine rk 1 (.d (.k2 (.i 62 (.fptr 4 (List.map eRoad a0.Roads) v3 0) .n))) ?_
  refine jo 63 (.load false 1 62) (ok_load_fm (v := vt ((ix a0.Roads v3).A)) rfl c2 rfl) ?_
  refine jo 64 (.len 1 63) (ok_len_t rfl) ?_
  refine jo 65 (.bin .gtr false 64 (ki 30)) (n_gtr (i := ((ix a0.Roads v3).A).length) (j := 30) rfl rfl) ?_
  refine rk 1 (.d3 (.k2 (.i 66 (vb (decide (30 < (((ix a0.Roads v3).A).length)))) .n))) ?_
  refine gj (.ptr 0 0 2) 67 (.faddr 2 1) 66 false rfl ?_
  refine gk (eS 4 eRoad a0.Roads) 68 (.load false 1 67) 66 false rfl (fun hg => (.cons hg .nil)) ?_
  refine gj (vi v3) 69 (.mov 3) 66 false rfl ?_
  refine gv 70 (.iaddr 4 68 69) 66 false rfl (fun hg => (ok_iaddr_m (j := v3) rfl rfl rfl c2)) (fun hg => (.cons hg (.cons hg .nil))) ?_
  refine gk (.fptr 4 (List.map eRoad a0.Roads) v3 1) 71 (.faddr 1 70) 66 false rfl (fun hg => (.cons hg .nil)) ?_
  refine gv 72 (.load false 1 71) 66 false rfl (fun hg => (ok_load_fm (v := vt ((ix a0.Roads v3).B)) rfl c2 rfl)) (fun hg => (.cons hg .nil)) ?_
  refine gv 73 (.len 1 72) 66 false rfl (fun hg => (ok_len_t rfl)) (fun hg => (.cons hg .nil)) ?_
  refine gv 74 (.bin .gtr false 73 (ki 30)) 66 false rfl (fun hg => (n_gtr (i := ((ix a0.Roads v3).B).length) (j := 30) rfl rfl)) (fun hg => (.cons hg (.cons rfl .nil))) ?_
  refine po 75 66 74 rfl rfl ?_
  refine jf (.d4 (.d4 (.d (.k2 (.i 75 (vb ((decide (30 < (((ix a0.Roads v3).A).length))) || (decide (30 < (((ix a0.Roads v3).B).length))))) .n))))) ?_
  refine tc h (fun c3 h => ?_) (fun c3 h => ?_)
  ·refine sk (.i 2 (vb false) .n) ?_
   refine q3 ?_
   have h := si h
   subst h
   exact DoneS.ret (S' := ⟨[(2, vb false)], []⟩) (sc [] (by decide) (by kernel_rfl) ObRen.nil rfl rfl) rfl rfl
  refine q2 ?_
  refine q6 ?_
  refine rk 1 (.k (.i 56 (vi v3) .n)) ?_
  refine cK h fun c4 h => ?_
  refine jo 57 (.bin .add false 56 (ki 1)) (r_addn (i := v3) (j := 1) rfl rfl c4) ?_
  refine jk 1 (.d (.k (.i 3 (vi ((v3 + 1 : Nat) : Int)) .n))) ?_
  exact Vs.intro sy ⟨(v3 + 1), rfl, h⟩
 refine q5 ?_
 exact Vs.intro sy ⟨(), rfl, h⟩
theorem agraffelaw09_slim_ok (n : Nat) (a0 : Item) (r : Unit) (h : agraffelaw09_slim n a0 = some r) : FnL Try.prog 15 [.agg [vi a0.Kind, vi a0.From, vi a0.To, vt a0.Grand, vt a0.Place, vt a0.Who, vi a0.Deposit]] [] (vb (((decide (a0.Grand.length ≤ 30)) && (decide (a0.Place.length ≤ 30))) && (decide (a0.Who.length ≤ 30)))) [] := by
 dsimp only [agraffelaw09_slim] at h
 refine fo [2] Try.call15 Try.func15 rfl ?_
 refine sko (.i 1 (.ptr 0 0 0) .n) [some (.row 7 [.agg [vi a0.Kind, vi a0.From, vi a0.To, vt a0.Grand, vt a0.Place, vt a0.Who, vi a0.Deposit]])] ?_
 refine sj ?_
 refine rk 2 (.k (.i 4 (vt a0.Grand) .n)) ?_
 refine jo 5 (.len 1 4) (ok_len_t rfl) ?_
 refine jo 6 (.bin .leq false 5 (ki 30)) (n_leq (i := a0.Grand.length) (j := 30) rfl rfl) ?_
 refine rk 1 (.d2 (.k (.i 7 (vb (decide (a0.Grand.length ≤ 30))) .n))) ?_
 refine gj (.ptr 0 0 4) 8 (.faddr 4 1) 7 true rfl ?_
 refine gk (vt a0.Place) 9 (.load false 1 8) 7 true rfl (fun hg => (.cons hg .nil)) ?_
 refine gv 10 (.len 1 9) 7 true rfl (fun hg => (ok_len_t rfl)) (fun hg => (.cons hg .nil)) ?_
 refine gv 11 (.bin .leq false 10 (ki 30)) 7 true rfl (fun hg => (n_leq (i := a0.Place.length) (j := 30) rfl rfl)) (fun hg => (.cons hg (.cons rfl .nil))) ?_
 refine pa 12 7 11 rfl rfl ?_
 refine rk 1 (.d4 (.d (.k (.i 13 (vb ((decide (a0.Grand.length ≤ 30)) && (decide (a0.Place.length ≤ 30)))) .n)))) ?_
 refine gj (.ptr 0 0 5) 14 (.faddr 5 1) 13 true rfl ?_
 refine gk (vt a0.Who) 15 (.load false 1 14) 13 true rfl (fun hg => (.cons hg .nil)) ?_
 refine gv 16 (.len 1 15) 13 true rfl (fun hg => (ok_len_t rfl)) (fun hg => (.cons hg .nil)) ?_
 refine gv 17 (.bin .leq false 16 (ki 30)) 13 true rfl (fun hg => (n_leq (i := a0.Who.length) (j := 30) rfl rfl)) (fun hg => (.cons hg (.cons rfl .nil))) ?_
 refine pa 18 13 17 rfl rfl ?_
 refine jk 1 (.i 2 (vb (((decide (a0.Grand.length ≤ 30)) && (decide (a0.Place.length ≤ 30))) && (decide (a0.Who.length ≤ 30)))) .n) ?_
 refine q3 ?_
 have h := si h
 subst h
 exact DoneS.ret (S' := ⟨[(2, vb (((decide (a0.Grand.length ≤ 30)) && (decide (a0.Place.length ≤ 30))) && (decide (a0.Who.length ≤ 30))))], []⟩) (sc [] (by decide) (by kernel_rfl) ObRen.nil rfl rfl) rfl rfl
theorem agraffelaw09_Few_ok (n : Nat) (a0 : List Item) (r : Bool) (h : agraffelaw09_Few n a0 = some r) : FnL Try.prog 21 [eS 7 eItem a0] [] (vb r) [] := by
 dsimp only [agraffelaw09_Few] at h
 refine fo [2] Try.call21 Try.func21 rfl ?_
 refine sk .a ?_
 refine TriE.seqK h (fun (_ : Unit) => St.mk [(0, eS 7 eItem a0)] []) ?_ ?_
 ·rintro ⟨⟩ h
  refine sj ?_
  refine rk 1 (.k (.i 16 (eS 7 eItem a0) .n)) ?_
  refine jo 17 (.len 0 16) (ok_len_m rfl) ?_
  refine jo 18 (.bin .leq false 17 (ki 10)) (n_leq (i := a0.length) (j := 10) rfl rfl) ?_
  refine rk 1 (.d2 (.k (.i 19 (vb (decide (a0.length ≤ 10))) .n))) ?_
  refine gj (eS 7 eItem a0) 20 (.mov 0) 19 false rfl ?_
  refine gv 21 (.len 0 20) 19 false rfl (fun hg => (ok_len_m rfl)) (fun hg => (.cons hg .nil)) ?_
  refine gv 22 (.bin .gtr false 21 (ki 100)) 19 false rfl (fun hg => (n_gtr (i := a0.length) (j := 100) rfl rfl)) (fun hg => (.cons hg (.cons rfl .nil))) ?_
  refine gk (vb (decide (100 < a0.length))) 23 (.mov 22) 19 false rfl (fun hg => (.cons hg .nil)) ?_
  refine gj (eS 7 eItem a0) 24 (.mov 0) 23 true rfl ?_
  refine gv 25 (.len 0 24) 23 true rfl (fun hg => (ok_len_m rfl)) (fun hg => (.cons hg .nil)) ?_
  refine gv 26 (.bin .leq false 25 (ki 103)) 23 true rfl (fun hg => (n_leq (i := a0.length) (j := 103) rfl rfl)) (fun hg => (.cons hg (.cons rfl .nil))) ?_
  refine RegJ.op (Op1.andg (g := !(decide (a0.length ≤ 10))) (cy (IG 27 (.pick 23 26 (.c (.p (.bool false)))) 19 false)) rfl rfl rfl (fun hg => by first | exact hokA2 hg | exact hokA3 hg | exact hokA1 | exact hokA0 | (rw [hg]; simp) | simp_all)) ?_
  refine po 28 19 27 rfl rfl ?_
  refine jk 1 (.i 2 (vb ((decide (a0.length ≤ 10)) || ((decide (100 < a0.length)) && (decide (a0.length ≤ 103))))) .n) ?_
  refine q3 ?_
  have h := si h
  subst h
  exact DoneS.ret Sees.refl rfl rfl
 intro k1 h
 refine sk (.k (.i 3 (vi 0) .n)) ?_
 refine q4 ?_
 refine ts (.k (.i 3 (vi 0) .n)) ?_
 refine TriE.loopN h (fun (v2 : Nat) => St.mk [(0, eS 7 eItem a0), (3, vi v2)] []) rfl ?_
 clear h
 rintro back v2 h
 dsimp only [agraffelaw09_Few_L1] at h
 refine q1 ?_
 refine sj ?_
 refine rk 2 (.k2 (.i 4 (vi v2) (.i 5 (eS 7 eItem a0) .n))) ?_
 refine jo 6 (.len 0 5) (ok_len_m rfl) ?_
 refine jo 7 (.bin .lss false 4 6) (n_lss (i := v2) (j := a0.length) rfl rfl) ?_
 refine jf (.d2 (.k2 (.i 7 (vb (decide (v2 < a0.length))) .n))) ?_
 refine tc h (fun c1 h => ?_) (fun c1 h => ?_)
 ·refine q2 ?_
  refine q7 ?_
  refine sj ?_
  refine rk 2 (.k2 (.i 10 (eS 7 eItem a0) (.i 11 (vi v2) .n))) ?_
  refine jo 12 (.iaddr 7 10 11) (ok_iaddr_m (j := v2) rfl rfl rfl c1) ?_
  refine jo 13 (.load true 7 12) (ok_load_fm (v := .agg [vi ((ix a0 v2).Kind), vi ((ix a0 v2).From), vi ((ix a0 v2).To), vt ((ix a0 v2).Grand), vt ((ix a0 v2).Place), vt ((ix a0 v2).Who), vi ((ix a0 v2).Deposit)]) rfl c1 rfl) ?_
  refine bK h fun y3 hy3 h => ?_
  refine jc 14 [13] (agraffelaw09_slim_ok n (ix a0 v2) y3 hy3) ?_
  refine jk 1 (.d3 (.k2 (.i 15 (vb (!(((decide ((ix a0 v2).Grand.length ≤ 30)) && (decide ((ix a0 v2).Place.length ≤ 30))) && (decide ((ix a0 v2).Who.length ≤ 30))))) .n))) ?_
  refine tc h (fun c2 h => ?_) (fun c2 h => ?_)
  ·refine sk (.i 2 (vb false) .n) ?_
   refine q3 ?_
   have h := si h
   subst h
   exact DoneS.ret Sees.refl rfl rfl
  refine q2 ?_
  refine q6 ?_
  refine rk 1 (.k (.i 8 (vi v2) .n)) ?_
  refine cK h fun c3 h => ?_
  refine jo 9 (.bin .add false 8 (ki 1)) (r_addn (i := v2) (j := 1) rfl rfl c3) ?_
  refine jk 1 (.d (.k (.i 3 (vi ((v2 + 1 : Nat) : Int)) .n))) ?_
  exact Vs.intro sy ⟨(v2 + 1), rfl, h⟩
 refine q5 ?_
 exact Vs.intro sy ⟨(), rfl, h⟩
set_option maxHeartbeats 1000000 in
theorem diary_Add_ok (n : Nat) (a0 : Diary) (a1 : List Item) (a2 : Item) (r : Int × (List Item)) (h : diary_Add n a0 a1 a2 = some r) : FnL Try.prog 25 [.agg [eS 1 vt a0.Places, eS 1 vt a0.Technicians, eS 4 eRoad a0.Roads, eS 3 eGrand a0.Grands, vi a0.Change, vi a0.Lasts], eS 7 eItem a1, .agg [vi a2.Kind, vi a2.From, vi a2.To, vt a2.Grand, vt a2.Place, vt a2.Who, vi a2.Deposit]] [] (.tup [eS 7 eItem r.2, vi r.1]) [] := by
 dsimp only [diary_Add] at h
 refine fo [6, 7] Try.call25 Try.func25 rfl ?_
 refine sko (.d (.k (.i 3 (.ptr 0 0 0) (.i 5 (.ptr 1 0 0) .n)))) [some (.row 6 [.agg [eS 1 vt a0.Places, eS 1 vt a0.Technicians, eS 4 eRoad a0.Roads, eS 3 eGrand a0.Grands, vi a0.Change, vi a0.Lasts]]), some (.row 7 [.agg [vi a2.Kind, vi a2.From, vi a2.To, vt a2.Grand, vt a2.Place, vt a2.Who, vi a2.Deposit]])] ?_
 refine TriE.seqK2 h (fun (v4 : Int) => St.mk [(1, eS 7 eItem a1), (5, .ptr 0 0 0), (8, .p (.pointer none)), (9, vi v4)] [some (.row 7 [.agg [vi a2.Kind, vi a2.From, vi a2.To, vt a2.Grand, vt a2.Place, vt a2.Who, vi a2.Deposit]])]) (fun (t : Int × (List (Int × List (Arr2_Str × Int)))) => match t with | (v6, v7) => St.mk [(1, eS 7 eItem a1), (5, .ptr 0 0 0), (8, .ptr 2 0 0), (9, vi v6)] [some (.row 7 [.agg [vi a2.Kind, vi a2.From, vi a2.To, vt a2.Grand, vt a2.Place, vt a2.Who, vi a2.Deposit]]), some (.mp (mpE vi (eM eArr2_Str vi) v7)), some (.row 7 [.agg [eS 1 vt a0.Places, eS 1 vt a0.Technicians, eS 4 eRoad a0.Roads, eS 3 eGrand a0.Grands, vi a0.Change, vi a0.Lasts, .map 1]])]) ?_ ?_ ?_
 ·rintro v4 h
  refine q7 ?_
  refine sk (.k4 (.i 16 (vb (v4 != (0 : Int))) .n)) ?_
  refine tc h (fun c1 h => ?_) (fun c1 h => ?_)
  ·refine sk (.i 6 .emp (.i 7 (vi v4) .n)) ?_
   refine q3 ?_
   have h := si h
   subst h
   exact DoneS.ret (S' := ⟨[(6, eS 7 eItem ([] : List Item)), (7, vi v4)], []⟩) (Sees.trans (Sees.vco (fr' := [(6, eS 7 eItem ([] : List Item)), (7, vi v4)]) (.cons .sl (.cons .same .nil))) (sc [] (by decide) (by kernel_rfl) ObRen.nil rfl rfl)) rfl rfl
  refine sj ?_
  refine rk 1 (.k3 (.i 21 (eS 7 eItem a1) .n)) ?_
  refine jo 22 (.len 0 21) (ok_len_m rfl) ?_
  refine jo 23 (.bin .geq false 22 (ki 100)) (n_geq (i := a1.length) (j := 100) rfl rfl) ?_
  refine jk 1 (.d2 (.k3 (.i 20 (vb (decide (100 ≤ a1.length))) .n))) ?_
  refine tc h (fun c2 h => ?_) (fun c2 h => ?_)
  ·refine sk (.i 6 .emp (.i 7 (vi 8) .n)) ?_
   refine q3 ?_
   have h := si h
   subst h
   exact DoneS.ret (S' := ⟨[(6, eS 7 eItem ([] : List Item)), (7, vi 8)], []⟩) (Sees.trans (Sees.vco (fr' := [(6, eS 7 eItem ([] : List Item)), (7, vi 8)]) (.cons .sl (.cons .same .nil))) (sc [] (by decide) (by kernel_rfl) ObRen.nil rfl rfl)) rfl rfl
  refine q2 ?_
  refine sj ?_
  refine rk 3 (.i 24 (.p (.pointer none)) (.i 25 (eS 7 eItem a1) (.i 26 (.agg [vi a2.Kind, vi a2.From, vi a2.To, vt a2.Grand, vt a2.Place, vt a2.Who, vi a2.Deposit]) .n))) ?_
  refine bK h fun y5 hy5 h => ?_
  refine jc 27 [24, 25, 26] (diary_plan_add_ok n a1 a2 y5 hy5) ?_
  refine jk 4 (.i 6 (eS 7 eItem y5.2) (.i 7 (vi y5.1) .n)) ?_
  refine q3 ?_
  have h := si h
  subst h
  exact DoneS.ret (S' := ⟨[(6, eS 7 eItem y5.2), (7, vi y5.1)], []⟩) (sc [] (by decide) (by kernel_rfl) ObRen.nil rfl rfl) rfl rfl
 ·rintro ⟨v6, v7⟩ h
  refine q7 ?_
  refine sk (.k4 (.i 16 (vb (v6 != (0 : Int))) .n)) ?_
  refine tc h (fun c3 h => ?_) (fun c3 h => ?_)
  ·refine sk (.i 6 .emp (.i 7 (vi v6) .n)) ?_
   refine q3 ?_
   have h := si h
   subst h
   exact DoneS.ret (S' := ⟨[(6, eS 7 eItem ([] : List Item)), (7, vi v6)], []⟩) (Sees.trans (Sees.vco (fr' := [(6, eS 7 eItem ([] : List Item)), (7, vi v6)]) (.cons .sl (.cons .same .nil))) (sc [] (by decide) (by kernel_rfl) ObRen.nil rfl rfl)) rfl rfl
  refine sj ?_
  refine rk 1 (.k3 (.i 21 (eS 7 eItem a1) .n)) ?_
  refine jo 22 (.len 0 21) (ok_len_m rfl) ?_
  refine jo 23 (.bin .geq false 22 (ki 100)) (n_geq (i := a1.length) (j := 100) rfl rfl) ?_
  refine jk 1 (.d2 (.k3 (.i 20 (vb (decide (100 ≤ a1.length))) .n))) ?_
  refine tc h (fun c4 h => ?_) (fun c4 h => ?_)
  ·refine sk (.i 6 .emp (.i 7 (vi 8) .n)) ?_
   refine q3 ?_
   have h := si h
   subst h
   exact DoneS.ret (S' := ⟨[(6, eS 7 eItem ([] : List Item)), (7, vi 8)], []⟩) (Sees.trans (Sees.vco (fr' := [(6, eS 7 eItem ([] : List Item)), (7, vi 8)]) (.cons .sl (.cons .same .nil))) (sc [] (by decide) (by kernel_rfl) ObRen.nil rfl rfl)) rfl rfl
  refine q2 ?_
  refine sj ?_
  refine rk 3 (.i 24 (.ptr 2 0 0) (.i 25 (eS 7 eItem a1) (.i 26 (.agg [vi a2.Kind, vi a2.From, vi a2.To, vt a2.Grand, vt a2.Place, vt a2.Who, vi a2.Deposit]) .n))) ?_
  refine bK h fun y8 hy8 h => ?_
  refine jco (.tup [eS 7 eItem y8.2.2, vi y8.1]) 27 [24, 25, 26] (diary_plan_add_2_ok n a0.Places a0.Technicians a0.Roads a0.Grands a0.Change a0.Lasts v7 a1 a2 y8 hy8) [2, 1] rfl (.cons rfl (.same (mp_ren vi_frz (eM_frz eArr2_Str vi) _ _) .nil)) (.cons rfl (.same (mp_ren vi_frz (eM_frz eArr2_Str vi) _ _) .nil)) rfl ?_
  refine jk 4 (.i 6 (eS 7 eItem y8.2.2) (.i 7 (vi y8.1) .n)) ?_
  refine q3 ?_
  have h := si h
  subst h
  exact DoneS.ret (S' := ⟨[(6, eS 7 eItem y8.2.2), (7, vi y8.1)], []⟩) (sc [] (by decide) (by kernel_rfl) ObRen.nil rfl rfl) rfl rfl
 intro k1 k2 h
 refine q6 ?_
 refine rk 2 (.k (.d (.k (.i 11 (.agg [eS 1 vt a0.Places, eS 1 vt a0.Technicians, eS 4 eRoad a0.Roads, eS 3 eGrand a0.Grands, vi a0.Change, vi a0.Lasts]) (.i 12 (eS 7 eItem a1) .n))))) ?_
 refine bK h fun y1 hy1 h => ?_
 rcases y1 with y1 | y1
 ·dsimp only at h
  refine jc 13 [11, 12] (diary_read_ok n a0 a1 (Sum.inl y1) hy1) ?_
  refine jk 5 (.d (.k2 (.i 8 (.p (.pointer none)) (.i 9 (vi y1) .n)))) ?_
  exact Vs.intro (sc [1] (by decide) (by kernel_rfl) (.cons rfl .nil) rfl rfl) (.inl ⟨y1, rfl, h⟩)
 dsimp only at h
 refine jco (.tup [.ptr 3 0 0, vi y1.1]) 13 [11, 12] (diary_read_ok n a0 a1 (Sum.inr y1) hy1) [] rfl ObsRen.nil (.same (mp_ren vi_frz (eM_frz eArr2_Str vi) _ _) (.cons rfl .nil)) rfl ?_
 refine jk 5 (.d (.k2 (.i 8 (.ptr 3 0 0) (.i 9 (vi y1.1) .n)))) ?_
 exact Vs.intro (sc [1, 2, 3] (by decide) (by kernel_rfl) (.cons rfl (obRen_mp vi_frz (eM_frz eArr2_Str vi) rfl (.cons rfl .nil))) rfl rfl) (.inr ⟨(y1.1, y1.2), rfl, h⟩)
theorem agraffetop_written_ok (n : Nat)  (r : Bool) (h : agraffetop_written n  = some r) : FnL Try.prog 51 [] [] (vb r) [] := by
 dsimp only [agraffetop_written] at h
 refine fo [0] Try.call51 Try.func51 rfl ?_
 refine sk .n ?_
 refine sj ?_
 refine bK h fun y1 hy1 h => ?_
 refine jc 4 [] (agraffelaw09_Town_ok n y1 hy1) ?_
 refine bK h fun y2 hy2 h => ?_
 refine jc 5 [] (agraffelaw09_Evening_ok n y2 hy2) ?_
 refine bK h fun y3 hy3 h => ?_
 refine jc 6 [4, 5] (diary_Accept_ok n (Diary.mk ([([115, 104, 111, 112] : Str), ([104, 97, 108, 108] : Str), ([104, 111, 109, 101] : Str)] : List Str) ([([97, 110, 110] : Str), ([98, 111, 98] : Str)] : List Str) ([(Road.mk ([115, 104, 111, 112] : Str) ([104, 97, 108, 108] : Str) 30 200), (Road.mk ([104, 97, 108, 108] : Str) ([104, 111, 109, 101] : Str) 20 100), (Road.mk ([115, 104, 111, 112] : Str) ([104, 111, 109, 101] : Str) 60 150)] : List Road) ([(Grand.mk ([103] : Str) ([115, 104, 111, 112] : Str) 150), (Grand.mk ([117] : Str) ([104, 111, 109, 101] : Str) 100)] : List Grand) 10 300) ([(Item.mk 1 0 40 ([103] : Str) ([104, 97, 108, 108] : Str) ([] : Str) 0), (Item.mk 0 50 110 ([103] : Str) ([104, 97, 108, 108] : Str) ([97, 110, 110] : Str) 0), (Item.mk 2 200 300 ([103] : Str) ([104, 97, 108, 108] : Str) ([] : Str) 0)] : List Item) y3 hy3) ?_
 refine jk 5 (.i 1 (vi y3.2) (.i 2 (vi y3.1) .n)) ?_
 refine sj ?_
 refine rk 3 (.k (.i 11 (vb (y3.1 == (0 : Int))) .n)) ?_
 refine gj (vi y3.2) 12 (.mov 1) 11 true rfl ?_
 refine gk (vb (y3.2 == ((-1) : Int))) 13 (.bin .eql false 12 (ki (-1))) 11 true rfl (fun hg => (.cons hg (.cons rfl .nil))) ?_
 refine pa 14 11 13 rfl rfl ?_
 refine jk 1 (.i 0 (vb ((y3.1 == (0 : Int)) && (y3.2 == ((-1) : Int)))) .n) ?_
 refine q3 ?_
 have h := si h
 subst h
 exact DoneS.ret Sees.refl rfl rfl
theorem slices_Delete_Item_ok (n : Nat) (a0 : List Item) (a1 : Int) (a2 : Int) (r : List Item) (h : slices_Delete_Item n a0 a1 a2 = some r) : FnL Try.prog 100 [.own 0 0 a0.length, vi a1, vi a2] [some (.row 7 (List.map eItem a0))] (.own 1 0 r.length) [none, some (.row 7 (List.map eItem r))] := by
 refine cK h fun c1 h => ?_
 refine cK h fun c2 h => ?_
 refine cK h fun c3 h => ?_
 cases h
 exact FnL_delete c1 c2 c3
set_option maxHeartbeats 1000000 in
theorem diary_Cancel_ok (n : Nat) (a0 : Diary) (a1 : List Item) (a2 : Int) (r : Int × (List Item)) (h : diary_Cancel n a0 a1 a2 = some r) : FnL Try.prog 56 [.agg [eS 1 vt a0.Places, eS 1 vt a0.Technicians, eS 4 eRoad a0.Roads, eS 3 eGrand a0.Grands, vi a0.Change, vi a0.Lasts], eS 7 eItem a1, vi a2] [] (.tup [eS 7 eItem r.2, vi r.1]) [] := by
 dsimp only [diary_Cancel] at h
 refine fo [6, 7] Try.call56 Try.func56 rfl ?_
 refine sko (.d (.k2 (.i 3 (.ptr 0 0 0) .n))) [some (.row 6 [.agg [eS 1 vt a0.Places, eS 1 vt a0.Technicians, eS 4 eRoad a0.Roads, eS 3 eGrand a0.Grands, vi a0.Change, vi a0.Lasts]])] ?_
 refine TriE.seqK2 h (fun (v4 : Int) => St.mk [(1, eS 7 eItem a1), (2, vi a2), (8, .p (.pointer none)), (9, vi v4)] []) (fun (t : Int × (List (Int × List (Arr2_Str × Int)))) => match t with | (v9, v10) => St.mk [(1, eS 7 eItem a1), (2, vi a2), (8, .ptr 1 0 0), (9, vi v9)] [some (.mp (mpE vi (eM eArr2_Str vi) v10)), some (.row 7 [.agg [eS 1 vt a0.Places, eS 1 vt a0.Technicians, eS 4 eRoad a0.Roads, eS 3 eGrand a0.Grands, vi a0.Change, vi a0.Lasts, .map 0]])]) ?_ ?_ ?_
 ·rintro v4 h
  refine q7 ?_
  refine sk (.k4 (.i 19 (vb (v4 != (0 : Int))) .n)) ?_
  refine tc h (fun c1 h => ?_) (fun c1 h => ?_)
  ·refine sk (.i 6 .emp (.i 7 (vi v4) .n)) ?_
   refine q3 ?_
   have h := si h
   subst h
   exact DoneS.ret (S' := ⟨[(6, eS 7 eItem ([] : List Item)), (7, vi v4)], []⟩) (Sees.trans (Sees.vco (fr' := [(6, eS 7 eItem ([] : List Item)), (7, vi v4)]) (.cons .sl (.cons .same .nil))) sy) rfl rfl
  refine sj ?_
  refine rk 2 (.k3 (.i 24 (vi a2) (.i 25 (eS 7 eItem a1) .n))) ?_
  refine jo 26 (.len 0 25) (ok_len_m rfl) ?_
  refine cK h fun c2 h => ?_
  refine jo 27 (.bin .sub false 26 (ki 1)) (r_sub rfl rfl c2) ?_
  refine bK h fun y5 hy5 h => ?_
  refine jc 28 [24, (ki 0), 27] (diary_within_ok n a2 0 ((a1.length : Int) - 1) y5 hy5) ?_
  refine jk 2 (.d3 (.k3 (.i 23 (vb (!((decide (0 ≤ a2)) && (decide (a2 ≤ ((a1.length : Int) - 1)))))) .n))) ?_
  refine tc h (fun c3 h => ?_) (fun c3 h => ?_)
  ·refine sk (.i 6 .emp (.i 7 (vi 6) .n)) ?_
   refine q3 ?_
   have h := si h
   subst h
   exact DoneS.ret (S' := ⟨[(6, eS 7 eItem ([] : List Item)), (7, vi 6)], []⟩) (Sees.trans (Sees.vco (fr' := [(6, eS 7 eItem ([] : List Item)), (7, vi 6)]) (.cons .sl (.cons .same .nil))) sy) rfl rfl
  refine q2 ?_
  refine sj ?_
  refine rk 1 (.d (.k2 (.i 30 (eS 7 eItem a1) .n))) ?_
  refine bK h fun y6 hy6 h => ?_
  refine jco (.own 0 0 y6.length) 31 [30] (slices_Clone_Item_ok n a1 y6 hy6) [] rfl ObsRen.nil (.same (row_ren eItem_frz _ _ _) .nil) rfl ?_
  refine rk 2 (.d2 (.k (.i 31 (.own 0 0 y6.length) (.i 32 (vi a2) (.i 33 (vi a2) .n))))) ?_
  refine cK h fun c4 h => ?_
  refine jo 34 (.bin .add false 33 (ki 1)) (r_add rfl rfl c4) ?_
  refine bK h fun y7 hy7 h => ?_
  refine jco (.own 1 0 y7.length) 35 [31, 32, 34] (slices_Delete_Item_ok n y6 a2 (a2 + 1) y7 hy7) [0] rfl (.same (row_ren eItem_frz _ _ _) .nil) (.cons rfl (.same (row_ren eItem_frz _ _ _) .nil)) rfl ?_
  refine jk 1 (.d2 (.k (.i 10 (.own 1 0 y7.length) .n))) ?_
  refine q1 ?_
  refine sj ?_
  refine rk 2 (.d (.k (.i 37 (.p (.pointer none)) (.i 38 (.own 1 0 y7.length) .n)))) ?_
  refine RegJ.sees (Sees.freeze 1 (fr' := [(10, eS 7 eItem y7), (37, .p (.pointer none)), (38, eS 7 eItem y7)]) (ob' := [none, none]) rfl (frz_row eItem_frzE _) (.cons (frz_full rfl) (.cons (.refl _) (.cons (frz_full rfl) .nil))) rfl) ?_
  refine bK h fun y8 hy8 h => ?_
  refine jc 39 [37, 38] (diary_plan_accept_ok n y7 y8 hy8) ?_
  refine jk 5 (.d (.k (.i 12 (vi y8.2) .n))) ?_
  refine sk (.k2 (.i 43 (vb (y8.2 != (0 : Int))) .n)) ?_
  refine tc h (fun c5 h => ?_) (fun c5 h => ?_)
  ·refine sk (.i 6 .emp (.i 7 (vi y8.2) .n)) ?_
   refine q3 ?_
   have h := si h
   subst h
   exact DoneS.ret (S' := ⟨[(6, eS 7 eItem ([] : List Item)), (7, vi y8.2)], []⟩) (Sees.trans (Sees.vco (fr' := [(6, eS 7 eItem ([] : List Item)), (7, vi y8.2)]) (.cons .sl (.cons .same .nil))) (sc [] (by decide) (by kernel_rfl) ObRen.nil rfl rfl)) rfl rfl
  refine q2 ?_
  refine sk (.i 6 (eS 7 eItem y7) (.i 7 (vi 0) .n)) ?_
  refine q3 ?_
  have h := si h
  subst h
  exact DoneS.ret (S' := ⟨[(6, eS 7 eItem y7), (7, vi 0)], []⟩) (sc [] (by decide) (by kernel_rfl) ObRen.nil rfl rfl) rfl rfl
 ·rintro ⟨v9, v10⟩ h
  refine q7 ?_
  refine sk (.k4 (.i 19 (vb (v9 != (0 : Int))) .n)) ?_
  refine tc h (fun c6 h => ?_) (fun c6 h => ?_)
  ·refine sk (.i 6 .emp (.i 7 (vi v9) .n)) ?_
   refine q3 ?_
   have h := si h
   subst h
   exact DoneS.ret (S' := ⟨[(6, eS 7 eItem ([] : List Item)), (7, vi v9)], []⟩) (Sees.trans (Sees.vco (fr' := [(6, eS 7 eItem ([] : List Item)), (7, vi v9)]) (.cons .sl (.cons .same .nil))) (sc [] (by decide) (by kernel_rfl) ObRen.nil rfl rfl)) rfl rfl
  refine sj ?_
  refine rk 2 (.k3 (.i 24 (vi a2) (.i 25 (eS 7 eItem a1) .n))) ?_
  refine jo 26 (.len 0 25) (ok_len_m rfl) ?_
  refine cK h fun c7 h => ?_
  refine jo 27 (.bin .sub false 26 (ki 1)) (r_sub rfl rfl c7) ?_
  refine bK h fun y11 hy11 h => ?_
  refine jc 28 [24, (ki 0), 27] (diary_within_ok n a2 0 ((a1.length : Int) - 1) y11 hy11) ?_
  refine jk 2 (.d3 (.k3 (.i 23 (vb (!((decide (0 ≤ a2)) && (decide (a2 ≤ ((a1.length : Int) - 1)))))) .n))) ?_
  refine tc h (fun c8 h => ?_) (fun c8 h => ?_)
  ·refine sk (.i 6 .emp (.i 7 (vi 6) .n)) ?_
   refine q3 ?_
   have h := si h
   subst h
   exact DoneS.ret (S' := ⟨[(6, eS 7 eItem ([] : List Item)), (7, vi 6)], []⟩) (Sees.trans (Sees.vco (fr' := [(6, eS 7 eItem ([] : List Item)), (7, vi 6)]) (.cons .sl (.cons .same .nil))) (sc [] (by decide) (by kernel_rfl) ObRen.nil rfl rfl)) rfl rfl
  refine q2 ?_
  refine sj ?_
  refine rk 1 (.d (.k2 (.i 30 (eS 7 eItem a1) .n))) ?_
  refine bK h fun y12 hy12 h => ?_
  refine jco (.own 2 0 y12.length) 31 [30] (slices_Clone_Item_ok n a1 y12 hy12) [] rfl ObsRen.nil (.same (row_ren eItem_frz _ _ _) .nil) rfl ?_
  refine rk 2 (.d2 (.k (.i 31 (.own 2 0 y12.length) (.i 32 (vi a2) (.i 33 (vi a2) .n))))) ?_
  refine cK h fun c9 h => ?_
  refine jo 34 (.bin .add false 33 (ki 1)) (r_add rfl rfl c9) ?_
  refine bK h fun y13 hy13 h => ?_
  refine jco (.own 3 0 y13.length) 35 [31, 32, 34] (slices_Delete_Item_ok n y12 a2 (a2 + 1) y13 hy13) [2] rfl (.same (row_ren eItem_frz _ _ _) .nil) (.cons rfl (.same (row_ren eItem_frz _ _ _) .nil)) rfl ?_
  refine jk 1 (.d2 (.k (.i 10 (.own 3 0 y13.length) .n))) ?_
  refine q1 ?_
  refine sj ?_
  refine rk 2 (.d (.k (.i 37 (.ptr 1 0 0) (.i 38 (.own 3 0 y13.length) .n)))) ?_
  refine RegJ.sees (Sees.freeze 3 (fr' := [(10, eS 7 eItem y13), (37, .ptr 1 0 0), (38, eS 7 eItem y13)]) (ob' := [some (.mp (mpE vi (eM eArr2_Str vi) v10)), some (.row 7 [.agg [eS 1 vt a0.Places, eS 1 vt a0.Technicians, eS 4 eRoad a0.Roads, eS 3 eGrand a0.Grands, vi a0.Change, vi a0.Lasts, .map 0]]), none, none]) rfl (frz_row eItem_frzE _) (.cons (frz_full rfl) (.cons (.refl _) (.cons (frz_full rfl) .nil))) rfl) ?_
  refine bK h fun y14 hy14 h => ?_
  refine jco (.tup [vi y14.1, vi y14.2.1]) 39 [37, 38] (diary_plan_accept_2_ok n a0.Places a0.Technicians a0.Roads a0.Grands a0.Change a0.Lasts v10 y13 y14 hy14) [1, 0] rfl (.cons rfl (.same (mp_ren vi_frz (eM_frz eArr2_Str vi) _ _) .nil)) (.cons rfl (.same (mp_ren vi_frz (eM_frz eArr2_Str vi) _ _) .nil)) rfl ?_
  refine jk 5 (.d (.k (.i 12 (vi y14.2.1) .n))) ?_
  refine sk (.k2 (.i 43 (vb (y14.2.1 != (0 : Int))) .n)) ?_
  refine tc h (fun c10 h => ?_) (fun c10 h => ?_)
  ·refine sk (.i 6 .emp (.i 7 (vi y14.2.1) .n)) ?_
   refine q3 ?_
   have h := si h
   subst h
   exact DoneS.ret (S' := ⟨[(6, eS 7 eItem ([] : List Item)), (7, vi y14.2.1)], []⟩) (Sees.trans (Sees.vco (fr' := [(6, eS 7 eItem ([] : List Item)), (7, vi y14.2.1)]) (.cons .sl (.cons .same .nil))) (sc [] (by decide) (by kernel_rfl) ObRen.nil rfl rfl)) rfl rfl
  refine q2 ?_
  refine sk (.i 6 (eS 7 eItem y13) (.i 7 (vi 0) .n)) ?_
  refine q3 ?_
  have h := si h
  subst h
  exact DoneS.ret (S' := ⟨[(6, eS 7 eItem y13), (7, vi 0)], []⟩) (sc [] (by decide) (by kernel_rfl) ObRen.nil rfl rfl) rfl rfl
 intro k1 k2 h
 refine q6 ?_
 refine rk 2 (.k2 (.i 14 (.agg [eS 1 vt a0.Places, eS 1 vt a0.Technicians, eS 4 eRoad a0.Roads, eS 3 eGrand a0.Grands, vi a0.Change, vi a0.Lasts]) (.i 15 (eS 7 eItem a1) .n))) ?_
 refine bK h fun y1 hy1 h => ?_
 rcases y1 with y1 | y1
 ·dsimp only at h
  refine jc 16 [14, 15] (diary_read_ok n a0 a1 (Sum.inl y1) hy1) ?_
  refine jk 5 (.d (.k2 (.i 8 (.p (.pointer none)) (.i 9 (vi y1) .n)))) ?_
  exact Vs.intro (sc [] (by decide) (by kernel_rfl) ObRen.nil rfl rfl) (.inl ⟨y1, rfl, h⟩)
 dsimp only at h
 refine jco (.tup [.ptr 2 0 0, vi y1.1]) 16 [14, 15] (diary_read_ok n a0 a1 (Sum.inr y1) hy1) [] rfl ObsRen.nil (.same (mp_ren vi_frz (eM_frz eArr2_Str vi) _ _) (.cons rfl .nil)) rfl ?_
 refine jk 5 (.d (.k2 (.i 8 (.ptr 2 0 0) (.i 9 (vi y1.1) .n)))) ?_
 exact Vs.intro (sc [1, 2] (by decide) (by kernel_rfl) (obRen_mp vi_frz (eM_frz eArr2_Str vi) rfl (.cons rfl .nil)) rfl rfl) (.inr ⟨(y1.1, y1.2), rfl, h⟩)
theorem agraffelaw09_Same_ok (n : Nat) (a0 : List Item) (a1 : List Item) (r : Bool) (h : agraffelaw09_Same n a0 a1 = some r) : FnL Try.prog 57 [eS 7 eItem a0, eS 7 eItem a1] [] (vb r) [] := by
 dsimp only [agraffelaw09_Same] at h
 refine fo [4] Try.call57 Try.func57 rfl ?_
 refine sk .a ?_
 refine q1 ?_
 refine sj ?_
 refine rk 1 (.k2 (.i 6 (eS 7 eItem a0) .n)) ?_
 refine jo 7 (.len 0 6) (ok_len_m rfl) ?_
 refine rk 1 (.d (.k2 (.i 7 (vi (a0.length : Int)) (.i 8 (eS 7 eItem a1) .n)))) ?_
 refine jo 9 (.len 0 8) (ok_len_m rfl) ?_
 refine jo 10 (.bin .neq false 7 9) (n_neq (i := a0.length) (j := a1.length) rfl rfl) ?_
 refine jf (.d2 (.k2 (.i 10 (vb (!decide (a0.length = a1.length))) .n))) ?_
 refine tc h (fun c1 h => ?_) (fun c1 h => ?_)
 ·refine sk (.i 4 (vb false) .n) ?_
  refine q3 ?_
  have h := si h
  subst h
  exact DoneS.ret Sees.refl rfl rfl
 refine q2 ?_
 refine TriE.seqK h (fun (_ : Unit) => St.mk [] []) ?_ ?_
 ·rintro ⟨⟩ h
  refine sk (.i 4 (vb true) .n) ?_
  refine q3 ?_
  have h := si h
  subst h
  exact DoneS.ret Sees.refl rfl rfl
 intro k1 h
 refine sk (.k2 (.i 5 (vi 0) .n)) ?_
 refine q4 ?_
 refine ts (.k2 (.i 5 (vi 0) .n)) ?_
 refine TriE.loopN h (fun (v1 : Nat) => St.mk [(0, eS 7 eItem a0), (1, eS 7 eItem a1), (5, vi v1)] []) rfl ?_
 clear h
 rintro back v1 h
 dsimp only [agraffelaw09_Same_L1] at h
 refine q1 ?_
 refine sj ?_
 refine rk 2 (.k3 (.i 11 (vi v1) (.i 12 (eS 7 eItem a0) .n))) ?_
 refine jo 13 (.len 0 12) (ok_len_m rfl) ?_
 refine jo 14 (.bin .lss false 11 13) (n_lss (i := v1) (j := a0.length) rfl rfl) ?_
 refine jf (.d2 (.k3 (.i 14 (vb (decide (v1 < a0.length))) .n))) ?_
 refine tc h (fun c2 h => ?_) (fun c2 h => ?_)
 ·refine q2 ?_
  refine q7 ?_
  refine q1 ?_
  refine ts (.k3 .n) ?_
  refine TriE.draw (by kernel_rfl) ?_
  refine dk 2 (.i 18 (vi v1) (.i 17 (eS 7 eItem a0) .a)) ?_
  refine dp 19 (.iaddr 7 17 18) (ok_iaddr_m (j := v1) rfl rfl rfl c2) ?_
  refine dp 20 (.load true 7 19) (ok_load_fm (v := .agg [vi ((ix a0 v1).Kind), vi ((ix a0 v1).From), vi ((ix a0 v1).To), vt ((ix a0 v1).Grand), vt ((ix a0 v1).Place), vt ((ix a0 v1).Who), vi ((ix a0 v1).Deposit)]) rfl c2 rfl) ?_
  refine dk 2 (.i 22 (vi v1) (.i 21 (eS 7 eItem a1) .a)) ?_
  refine cK h fun c3 h => ?_
  refine dp 23 (.iaddr 7 21 22) (ok_iaddr_m (j := v1) rfl rfl rfl c3) ?_
  refine dp 24 (.load true 7 23) (ok_load_fm (v := .agg [vi ((ix a1 v1).Kind), vi ((ix a1 v1).From), vi ((ix a1 v1).To), vt ((ix a1 v1).Grand), vt ((ix a1 v1).Place), vt ((ix a1 v1).Who), vi ((ix a1 v1).Deposit)]) rfl c3 rfl) ?_
  refine RegD.op (OpD.aggeq (cs := [vi ((ix a0 v1).Kind), vi ((ix a0 v1).From), vi ((ix a0 v1).To), vt ((ix a0 v1).Grand), vt ((ix a0 v1).Place), vt ((ix a0 v1).Who), vi ((ix a0 v1).Deposit)]) (ds := [vi ((ix a1 v1).Kind), vi ((ix a1 v1).From), vi ((ix a1 v1).To), vt ((ix a1 v1).Grand), vt ((ix a1 v1).Place), vt ((ix a1 v1).Who), vi ((ix a1 v1).Deposit)]) (b := (((ix a0 v1).Kind) == ((ix a1 v1).Kind)) && ((((ix a0 v1).From) == ((ix a1 v1).From)) && ((((ix a0 v1).To) == ((ix a1 v1).To)) && ((((ix a0 v1).Grand) == ((ix a1 v1).Grand)) && ((((ix a0 v1).Place) == ((ix a1 v1).Place)) && ((((ix a0 v1).Who) == ((ix a1 v1).Who)) && ((((ix a0 v1).Deposit) == ((ix a1 v1).Deposit)) && true))))))) true (cy (I0 25 (.bin .neq false 20 24))) rfl rfl rfl (by kernel_rfl) (.cons rfl (.cons rfl .nil))) ?_
  refine RegD.done rfl (by kernel_rfl) (S' := ⟨[(0, eS 7 eItem a0), (1, eS 7 eItem a1), (5, vi v1), (25, vb (!((((ix a0 v1).Kind) == ((ix a1 v1).Kind)) && ((((ix a0 v1).From) == ((ix a1 v1).From)) && ((((ix a0 v1).To) == ((ix a1 v1).To)) && ((((ix a0 v1).Grand) == ((ix a1 v1).Grand)) && ((((ix a0 v1).Place) == ((ix a1 v1).Place)) && ((((ix a0 v1).Who) == ((ix a1 v1).Who)) && ((((ix a0 v1).Deposit) == ((ix a1 v1).Deposit)) && true)))))))))], []⟩) (sc [] (by decide) (by kernel_rfl) ObRen.nil rfl rfl) ?_
  refine tc h (fun c4 h => ?_) (fun c4 h => ?_)
  ·refine sk (.i 4 (vb false) .n) ?_
   refine q3 ?_
   have h := si h
   subst h
   exact DoneS.ret Sees.refl rfl rfl
  refine q2 ?_
  refine q6 ?_
  refine rk 1 (.k2 (.i 15 (vi v1) .n)) ?_
  refine cK h fun c5 h => ?_
  refine jo 16 (.bin .add false 15 (ki 1)) (r_addn (i := v1) (j := 1) rfl rfl c5) ?_
  refine jk 1 (.d (.k2 (.i 5 (vi ((v1 + 1 : Nat) : Int)) .n))) ?_
  exact Vs.intro sy ⟨(v1 + 1), rfl, h⟩
 refine q5 ?_
 exact Vs.intro sy ⟨(), rfl, h⟩
set_option maxHeartbeats 1000000 in
theorem agraffetop_TopAddCancel_ok (n : Nat) (a0 : Diary) (a1 : List Item) (a2 : Item) (r : Bool) (h : agraffetop_TopAddCancel n a0 a1 a2 = some r) : FnL Try.prog 12 [.agg [eS 1 vt a0.Places, eS 1 vt a0.Technicians, eS 4 eRoad a0.Roads, eS 3 eGrand a0.Grands, vi a0.Change, vi a0.Lasts], eS 7 eItem a1, .agg [vi a2.Kind, vi a2.From, vi a2.To, vt a2.Grand, vt a2.Place, vt a2.Who, vi a2.Deposit]] [] (vb r) [] := by
 dsimp only [agraffetop_TopAddCancel] at h
 refine fo [6] Try.call12 Try.func12 rfl ?_
 refine sko (.d (.k (.i 3 (.ptr 0 0 0) (.i 5 (.ptr 1 0 0) .n)))) [some (.row 6 [.agg [eS 1 vt a0.Places, eS 1 vt a0.Technicians, eS 4 eRoad a0.Roads, eS 3 eGrand a0.Grands, vi a0.Change, vi a0.Lasts]]), some (.row 7 [.agg [vi a2.Kind, vi a2.From, vi a2.To, vt a2.Grand, vt a2.Place, vt a2.Who, vi a2.Deposit]])] ?_
 refine q1 ?_
 refine sj ?_
 refine bK h fun y1 hy1 h => ?_
 refine jc 19 [] (agraffetop_written_ok n y1 hy1) ?_
 refine jk 1 (.d (.k3 (.i 20 (vb (!y1)) .n))) ?_
 refine tc h (fun c1 h => ?_) (fun c1 h => ?_)
 ·refine sk (.i 6 (vb false) .n) ?_
  refine q3 ?_
  have h := si h
  subst h
  exact DoneS.ret (S' := ⟨[(6, vb false)], []⟩) (sc [] (by decide) (by kernel_rfl) ObRen.nil rfl rfl) rfl rfl
 refine q2 ?_
 refine q1 ?_
 refine sj ?_
 refine rk 1 (.k3 (.i 21 (.agg [eS 1 vt a0.Places, eS 1 vt a0.Technicians, eS 4 eRoad a0.Roads, eS 3 eGrand a0.Grands, vi a0.Change, vi a0.Lasts]) .n)) ?_
 refine bK h fun y2 hy2 h => ?_
 refine jc 22 [21] (agraffelaw09_Light_ok n a0 y2 hy2) ?_
 refine rk 2 (.d (.k3 (.i 24 (vb (!y2)) .n))) ?_
 refine gj (eS 7 eItem a1) 25 (.mov 1) 24 false rfl ?_
 refine bK h fun y3 hy3 h => ?_
 refine gc 26 [25] 24 false rfl (fun hg => agraffelaw09_Few_ok n a1 y3 (gcall_some hy3 hg)) (fun hg => (.cons rfl (.cons hg .nil))) (fun hg => by kernel_rfl) ?_
 refine gk (vb (!y3)) 27 (.un .not 26) 24 false rfl (fun hg => (.cons hg .nil)) ?_
 refine po 28 24 27 rfl rfl ?_
 refine rk 1 (.d4 (.k3 (.i 29 (vb ((!y2) || (!y3))) .n))) ?_
 refine gj (eS 7 eItem a1) 30 (.mov 1) 29 false rfl ?_
 refine gv 31 (.len 0 30) 29 false rfl (fun hg => (ok_len_m rfl)) (fun hg => (.cons hg .nil)) ?_
 refine gv 32 (.bin .gtr false 31 (ki 6)) 29 false rfl (fun hg => (n_gtr (i := a1.length) (j := 6) rfl rfl)) (fun hg => (.cons hg (.cons rfl .nil))) ?_
 refine po 33 29 32 rfl rfl ?_
 refine rk 1 (.d4 (.k3 (.i 34 (vb (((!y2) || (!y3)) || (decide (6 < a1.length)))) .n))) ?_
 refine gj (.ptr 1 0 3) 35 (.faddr 3 5) 34 false rfl ?_
 refine gk (vt a2.Grand) 36 (.load false 1 35) 34 false rfl (fun hg => (.cons hg .nil)) ?_
 refine gv 37 (.len 1 36) 34 false rfl (fun hg => (ok_len_t rfl)) (fun hg => (.cons hg .nil)) ?_
 refine gv 38 (.bin .gtr false 37 (ki 30)) 34 false rfl (fun hg => (n_gtr (i := a2.Grand.length) (j := 30) rfl rfl)) (fun hg => (.cons hg (.cons rfl .nil))) ?_
 refine po 39 34 38 rfl rfl ?_
 refine rk 1 (.d4 (.d (.k3 (.i 40 (vb ((((!y2) || (!y3)) || (decide (6 < a1.length))) || (decide (30 < a2.Grand.length)))) .n)))) ?_
 refine gj (.ptr 1 0 4) 41 (.faddr 4 5) 40 false rfl ?_
 refine gk (vt a2.Place) 42 (.load false 1 41) 40 false rfl (fun hg => (.cons hg .nil)) ?_
 refine gv 43 (.len 1 42) 40 false rfl (fun hg => (ok_len_t rfl)) (fun hg => (.cons hg .nil)) ?_
 refine gv 44 (.bin .gtr false 43 (ki 30)) 40 false rfl (fun hg => (n_gtr (i := a2.Place.length) (j := 30) rfl rfl)) (fun hg => (.cons hg (.cons rfl .nil))) ?_
 refine po 45 40 44 rfl rfl ?_
 refine rk 1 (.d4 (.d (.k3 (.i 46 (vb (((((!y2) || (!y3)) || (decide (6 < a1.length))) || (decide (30 < a2.Grand.length))) || (decide (30 < a2.Place.length)))) .n)))) ?_
 refine gj (.ptr 1 0 5) 47 (.faddr 5 5) 46 false rfl ?_
 refine gk (vt a2.Who) 48 (.load false 1 47) 46 false rfl (fun hg => (.cons hg .nil)) ?_
 refine gv 49 (.len 1 48) 46 false rfl (fun hg => (ok_len_t rfl)) (fun hg => (.cons hg .nil)) ?_
 refine gv 50 (.bin .gtr false 49 (ki 30)) 46 false rfl (fun hg => (n_gtr (i := a2.Who.length) (j := 30) rfl rfl)) (fun hg => (.cons hg (.cons rfl .nil))) ?_
 refine po 51 46 50 rfl rfl ?_
 refine jf (.d4 (.d (.k3 (.i 51 (vb ((((((!y2) || (!y3)) || (decide (6 < a1.length))) || (decide (30 < a2.Grand.length))) || (decide (30 < a2.Place.length))) || (decide (30 < a2.Who.length)))) .n)))) ?_
 refine tc h (fun c2 h => ?_) (fun c2 h => ?_)
 ·refine sk (.i 6 (vb true) .n) ?_
  refine q3 ?_
  have h := si h
  subst h
  exact DoneS.ret (S' := ⟨[(6, vb true)], []⟩) (sc [] (by decide) (by kernel_rfl) ObRen.nil rfl rfl) rfl rfl
 refine q2 ?_
 refine sj ?_
 refine rk 3 (.k3 (.i 53 (.agg [eS 1 vt a0.Places, eS 1 vt a0.Technicians, eS 4 eRoad a0.Roads, eS 3 eGrand a0.Grands, vi a0.Change, vi a0.Lasts]) (.i 54 (eS 7 eItem a1) (.i 55 (.agg [vi a2.Kind, vi a2.From, vi a2.To, vt a2.Grand, vt a2.Place, vt a2.Who, vi a2.Deposit]) .n)))) ?_
 refine bK h fun y4 hy4 h => ?_
 refine jc 56 [53, 54, 55] (diary_Add_ok n a0 a1 a2 y4 hy4) ?_
 refine jk 5 (.d (.k3 (.i 7 (eS 7 eItem y4.2) (.i 8 (vi y4.1) .n)))) ?_
 refine TriE.seqK h (fun (_ : Unit) => St.mk [(1, eS 7 eItem a1), (3, .ptr 0 0 0), (5, .ptr 1 0 0), (8, vi y4.1)] [some (.row 6 [.agg [eS 1 vt a0.Places, eS 1 vt a0.Technicians, eS 4 eRoad a0.Roads, eS 3 eGrand a0.Grands, vi a0.Change, vi a0.Lasts]]), some (.row 7 [.agg [vi a2.Kind, vi a2.From, vi a2.To, vt a2.Grand, vt a2.Place, vt a2.Who, vi a2.Deposit]])]) ?_ ?_
 ·rintro ⟨⟩ h
  refine sj ?_
  refine rk 3 (.k4 (.i 94 (.agg [eS 1 vt a0.Places, eS 1 vt a0.Technicians, eS 4 eRoad a0.Roads, eS 3 eGrand a0.Grands, vi a0.Change, vi a0.Lasts]) (.i 95 (eS 7 eItem a1) (.i 96 (.agg [vi a2.Kind, vi a2.From, vi a2.To, vt a2.Grand, vt a2.Place, vt a2.Who, vi a2.Deposit]) .n)))) ?_
  refine bK h fun y12 hy12 h => ?_
  refine jc 97 [94, 95, 96] (diary_FreeFrom_ok n a0 a1 a2 y12 hy12) ?_
  refine jk 5 (.d (.k4 (.i 13 (vi y12.2) (.i 14 (vi y12.1) .n)))) ?_
  refine q1 ?_
  refine sk (.k4 (.k (.i 101 (vb (y12.1 != (0 : Int))) .n))) ?_
  refine tc h (fun c9 h => ?_) (fun c9 h => ?_)
  ·refine sk (.i 6 (vb (y4.1 != (0 : Int))) .n) ?_
   refine q3 ?_
   have h := si h
   subst h
   exact DoneS.ret (S' := ⟨[(6, vb (y4.1 != (0 : Int)))], []⟩) (sc [] (by decide) (by kernel_rfl) ObRen.nil rfl rfl) rfl rfl
  refine q2 ?_
  refine q1 ?_
  refine sj ?_
  refine rk 5 (.k4 (.k (.i 108 (vb (decide (y12.2 < a2.From))) .n))) ?_
  refine gj (vi y12.2) 109 (.mov 13) 108 false rfl ?_
  refine gj (.ptr 1 0 1) 110 (.faddr 1 5) 108 false rfl ?_
  refine gk (vi a2.From) 111 (.load false 1 110) 108 false rfl (fun hg => (.cons hg .nil)) ?_
  refine gk (vb (y12.2 == a2.From)) 112 (.bin .eql false 109 111) 108 false rfl (fun hg => (.cons hg (.cons hg .nil))) ?_
  refine gj (vi y4.1) 113 (.mov 8) 108 false rfl ?_
  refine gk (vb (y4.1 == (0 : Int))) 114 (.bin .eql false 113 (ki 0)) 108 false rfl (fun hg => (.cons hg (.cons rfl .nil))) ?_
  refine gk (vb (!((y12.2 == a2.From) == (y4.1 == (0 : Int))))) 115 (.bin .neq true 112 114) 108 false rfl (fun hg => (.cons hg (.cons hg .nil))) ?_
  refine po 116 108 115 rfl rfl ?_
  refine jf (.d4 (.d4 (.k3 (.d (.k (.i 116 (vb ((decide (y12.2 < a2.From)) || (!((y12.2 == a2.From) == (y4.1 == (0 : Int)))))) .n)))))) ?_
  refine tc h (fun c10 h => ?_) (fun c10 h => ?_)
  ·refine sk (.i 6 (vb false) .n) ?_
   refine q3 ?_
   have h := si h
   subst h
   exact DoneS.ret (S' := ⟨[(6, vb false)], []⟩) (sc [] (by decide) (by kernel_rfl) ObRen.nil rfl rfl) rfl rfl
  refine q2 ?_
  refine TriE.seqK h (fun (_ : Unit) => St.mk [] []) ?_ ?_
  ·rintro ⟨⟩ h
   refine sk (.i 6 (vb true) .n) ?_
   refine q3 ?_
   have h := si h
   subst h
   exact DoneS.ret Sees.refl rfl rfl
  intro k4 h
  refine sj ?_
  refine rk 3 (.k4 (.i 118 (vi a2.From) (.i 119 (vi y12.2) .n))) ?_
  refine cK h fun c11 h => ?_
  refine jo 120 (.bin .sub false 119 (ki 5)) (r_sub rfl rfl c11) ?_
  refine jk 2 (.d (.k4 (.i 15 (vi (iMax a2.From (y12.2 - 5))) .n))) ?_
  refine q4 ?_
  refine TriE.loopN h (fun (v14 : Int) => St.mk [(1, eS 7 eItem a1), (3, .ptr 0 0 0), (5, .ptr 1 0 0), (13, vi y12.2), (15, vi v14)] [some (.row 6 [.agg [eS 1 vt a0.Places, eS 1 vt a0.Technicians, eS 4 eRoad a0.Roads, eS 3 eGrand a0.Grands, vi a0.Change, vi a0.Lasts]]), some (.row 7 [.agg [vi a2.Kind, vi a2.From, vi a2.To, vt a2.Grand, vt a2.Place, vt a2.Who, vi a2.Deposit]])]) rfl ?_
  clear h
  rintro back v14 h
  dsimp only [agraffetop_TopAddCancel_L2] at h
  refine q1 ?_
  refine sk (.k4 (.k (.i 124 (vb (decide (v14 < y12.2))) .n))) ?_
  refine tc h (fun c12 h => ?_) (fun c12 h => ?_)
  ·refine q2 ?_
   refine q7 ?_
   refine sko (.k4 (.k (.i 16 (.ptr 2 0 0) .n))) [some (.row 6 [.agg [eS 1 vt a0.Places, eS 1 vt a0.Technicians, eS 4 eRoad a0.Roads, eS 3 eGrand a0.Grands, vi a0.Change, vi a0.Lasts]]), some (.row 7 [.agg [vi a2.Kind, vi a2.From, vi a2.To, vt a2.Grand, vt a2.Place, vt a2.Who, vi a2.Deposit]]), some (.row 7 [.agg [vi a2.Kind, vi a2.From, vi a2.To, vt a2.Grand, vt a2.Place, vt a2.Who, vi a2.Deposit]])] ?_
   refine q1 ?_
   refine ts .a ?_
   refine TriE.draw (by kernel_rfl) ?_
   refine dk 4 (.i 131 (vi a2.To) (.i 130 (.ptr 1 0 2) (.i 129 (vi v14) (.i 128 (vi v14) .a)))) ?_
   refine cK h fun c13 h => ?_
   refine dp 132 (.bin .add false 129 131) (r_add rfl rfl c13) ?_
   refine dk 2 (.i 134 (vi a2.From) (.i 133 (.ptr 1 0 1) .a)) ?_
   refine cK h fun c14 h => ?_
   refine dp 135 (.bin .sub false 132 134) (r_sub rfl rfl c14) ?_
   refine dko 4 (.i 137 (.ptr 2 0 2) (.i 136 (.ptr 2 0 1) .a)) [some (.row 6 [.agg [eS 1 vt a0.Places, eS 1 vt a0.Technicians, eS 4 eRoad a0.Roads, eS 3 eGrand a0.Grands, vi a0.Change, vi a0.Lasts]]), some (.row 7 [.agg [vi a2.Kind, vi a2.From, vi a2.To, vt a2.Grand, vt a2.Place, vt a2.Who, vi a2.Deposit]]), some (.row 7 [.agg [vi a2.Kind, vi v14, vi ((v14 + a2.To) - a2.From), vt a2.Grand, vt a2.Place, vt a2.Who, vi a2.Deposit]]), none, none, none, none, none, none, none, none, none, none, none, none] ?_
   refine dfi (ob' := [some (.row 6 [.agg [eS 1 vt a0.Places, eS 1 vt a0.Technicians, eS 4 eRoad a0.Roads, eS 3 eGrand a0.Grands, vi a0.Change, vi a0.Lasts]]), some (.row 7 [.agg [vi a2.Kind, vi a2.From, vi a2.To, vt a2.Grand, vt a2.Place, vt a2.Who, vi a2.Deposit]]), some (.row 7 [.agg [vi a2.Kind, vi v14, vi ((v14 + a2.To) - a2.From), vt a2.Grand, vt a2.Place, vt a2.Who, vi a2.Deposit]])]) (.d4 (.d4 (.d2 .a))) [0, 1, 2] (.cons rfl (.cons rfl (.cons rfl .nil))) ?_
   refine sj ?_
   refine rk 3 (.k4 (.k (.i 139 (.agg [eS 1 vt a0.Places, eS 1 vt a0.Technicians, eS 4 eRoad a0.Roads, eS 3 eGrand a0.Grands, vi a0.Change, vi a0.Lasts]) (.i 140 (eS 7 eItem a1) (.i 141 (.agg [vi a2.Kind, vi v14, vi ((v14 + a2.To) - a2.From), vt a2.Grand, vt a2.Place, vt a2.Who, vi a2.Deposit]) .n))))) ?_
   refine bK h fun y15 hy15 h => ?_
   refine jc 142 [139, 140, 141] (diary_Add_ok n a0 a1 (Item.mk a2.Kind v14 ((v14 + a2.To) - a2.From) a2.Grand a2.Place a2.Who a2.Deposit) y15 hy15) ?_
   refine jk 5 (.d (.k4 (.k (.i 18 (vi y15.1) .n)))) ?_
   refine sk (.k4 (.k (.i 146 (vb (y15.1 == (0 : Int))) .n))) ?_
   refine tc h (fun c15 h => ?_) (fun c15 h => ?_)
   ·refine sk (.i 6 (vb false) .n) ?_
    refine q3 ?_
    have h := si h
    subst h
    exact DoneS.ret (S' := ⟨[(6, vb false)], []⟩) (sc [] (by decide) (by kernel_rfl) ObRen.nil rfl rfl) rfl rfl
   refine q2 ?_
   refine q6 ?_
   refine rk 1 (.k4 (.i 125 (vi v14) .n)) ?_
   refine cK h fun c16 h => ?_
   refine jo 126 (.bin .add false 125 (ki 1)) (r_add rfl rfl c16) ?_
   refine jk 1 (.d (.k4 (.i 15 (vi (v14 + 1)) .n))) ?_
   exact Vs.intro (sc [0, 1] (by decide) (by kernel_rfl) (.cons rfl (.cons rfl .nil)) rfl rfl) ⟨(v14 + 1), rfl, h⟩
  refine q5 ?_
  exact Vs.intro (sc [] (by decide) (by kernel_rfl) ObRen.nil rfl rfl) ⟨(), rfl, h⟩
 intro k3 h
 refine sk (.k4 (.k (.i 60 (vb (y4.1 == (0 : Int))) .n))) ?_
 refine tc h (fun c3 h => ?_) (fun c3 h => ?_)
 ·refine sk (.k4 (.k (.i 9 (vi (-1)) .n))) ?_
  refine TriE.seqK h (fun (v9 : Int) => St.mk [(1, eS 7 eItem a1), (3, .ptr 0 0 0), (5, .ptr 1 0 0), (7, eS 7 eItem y4.2), (8, vi y4.1), (9, vi v9)] [some (.row 6 [.agg [eS 1 vt a0.Places, eS 1 vt a0.Technicians, eS 4 eRoad a0.Roads, eS 3 eGrand a0.Grands, vi a0.Change, vi a0.Lasts]]), some (.row 7 [.agg [vi a2.Kind, vi a2.From, vi a2.To, vt a2.Grand, vt a2.Place, vt a2.Who, vi a2.Deposit]])]) ?_ ?_
  ·rintro v9 h
   refine sj ?_
   refine rk 3 (.k3 (.d (.k (.i 79 (.agg [eS 1 vt a0.Places, eS 1 vt a0.Technicians, eS 4 eRoad a0.Roads, eS 3 eGrand a0.Grands, vi a0.Change, vi a0.Lasts]) (.i 80 (eS 7 eItem y4.2) (.i 81 (vi v9) .n)))))) ?_
   refine bK h fun y10 hy10 h => ?_
   refine jc 82 [79, 80, 81] (diary_Cancel_ok n a0 y4.2 v9 y10 hy10) ?_
   refine jk 5 (.d (.k4 (.i 11 (eS 7 eItem y10.2) (.i 12 (vi y10.1) .n)))) ?_
   refine sj ?_
   refine rk 3 (.k4 (.k (.i 87 (vb (y10.1 != (0 : Int))) .n))) ?_
   refine gj (eS 7 eItem y10.2) 88 (.mov 11) 87 false rfl ?_
   refine gj (eS 7 eItem a1) 89 (.mov 1) 87 false rfl ?_
   refine bK h fun y11 hy11 h => ?_
   refine gc 90 [88, 89] 87 false rfl (fun hg => agraffelaw09_Same_ok n y10.2 a1 y11 (gcall_some hy11 hg)) (fun hg => (.cons rfl (.cons hg (.cons hg .nil)))) (fun hg => by kernel_rfl) ?_
   refine gk (vb (!y11)) 91 (.un .not 90) 87 false rfl (fun hg => (.cons hg .nil)) ?_
   refine po 92 87 91 rfl rfl ?_
   refine jf (.d4 (.d (.k4 (.i 92 (vb ((y10.1 != (0 : Int)) || (!y11))) .n)))) ?_
   refine tc h (fun c8 h => ?_) (fun c8 h => ?_)
   ·refine sk (.i 6 (vb false) .n) ?_
    refine q3 ?_
    have h := si h
    subst h
    exact DoneS.ret (S' := ⟨[(6, vb false)], []⟩) (sc [] (by decide) (by kernel_rfl) ObRen.nil rfl rfl) rfl rfl
   refine q2 ?_
   exact Vs.intro sy ⟨(), rfl, h⟩
  intro k2 h
  refine sk (.k4 (.k2 (.i 10 (vi 0) .n))) ?_
  refine q4 ?_
  refine ts (.k4 (.k2 (.i 10 (vi 0) .n))) ?_
  refine TriE.loopN h (fun (t : Int × Nat) => match t with | (v6, v7) => St.mk [(1, eS 7 eItem a1), (3, .ptr 0 0 0), (5, .ptr 1 0 0), (7, eS 7 eItem y4.2), (8, vi y4.1), (9, vi v6), (10, vi v7)] [some (.row 6 [.agg [eS 1 vt a0.Places, eS 1 vt a0.Technicians, eS 4 eRoad a0.Roads, eS 3 eGrand a0.Grands, vi a0.Change, vi a0.Lasts]]), some (.row 7 [.agg [vi a2.Kind, vi a2.From, vi a2.To, vt a2.Grand, vt a2.Place, vt a2.Who, vi a2.Deposit]])]) rfl ?_
  clear h
  rintro back ⟨v6, v7⟩ h
  dsimp only [agraffetop_TopAddCancel_L1] at h
  refine q1 ?_
  refine sj ?_
  refine rk 2 (.k4 (.k3 (.i 61 (vi v7) (.i 62 (eS 7 eItem y4.2) .n)))) ?_
  refine jo 63 (.len 0 62) (ok_len_m rfl) ?_
  refine jo 64 (.bin .lss false 61 63) (n_lss (i := v7) (j := y4.2.length) rfl rfl) ?_
  refine rk 1 (.d2 (.k4 (.k3 (.i 65 (vb (decide (v7 < y4.2.length))) .n)))) ?_
  refine gj (vi v7) 66 (.mov 10) 65 true rfl ?_
  refine gv 67 (.bin .leq false 66 (ki 10)) 65 true rfl (fun hg => (n_leq (i := v7) (j := 10) rfl rfl)) (fun hg => (.cons hg (.cons rfl .nil))) ?_
  refine pa 68 65 67 rfl rfl ?_
  refine jf (.d3 (.k4 (.k3 (.i 68 (vb ((decide (v7 < y4.2.length)) && (decide (v7 ≤ 10)))) .n)))) ?_
  refine tc h (fun c4 h => ?_) (fun c4 h => ?_)
  ·refine q2 ?_
   refine TriE.seqK h (fun (v8 : Int) => St.mk [(1, eS 7 eItem a1), (3, .ptr 0 0 0), (5, .ptr 1 0 0), (7, eS 7 eItem y4.2), (8, vi y4.1), (10, vi v7), (9, vi v8)] [some (.row 6 [.agg [eS 1 vt a0.Places, eS 1 vt a0.Technicians, eS 4 eRoad a0.Roads, eS 3 eGrand a0.Grands, vi a0.Change, vi a0.Lasts]]), some (.row 7 [.agg [vi a2.Kind, vi a2.From, vi a2.To, vt a2.Grand, vt a2.Place, vt a2.Who, vi a2.Deposit]])]) ?_ ?_
   ·rintro v8 h
    refine q6 ?_
    refine rk 1 (.k4 (.k (.d (.k (.i 69 (vi v7) .n))))) ?_
    refine cK h fun c7 h => ?_
    refine jo 70 (.bin .add false 69 (ki 1)) (r_addn (i := v7) (j := 1) rfl rfl c7) ?_
    refine jk 1 (.d (.k4 (.k2 (.i 10 (vi ((v7 + 1 : Nat) : Int)) .n)))) ?_
    exact Vs.intro sy ⟨(v8, v7 + 1), rfl, h⟩
   intro k1 h
   refine q4 ?_
   refine q1 ?_
   refine ts (.k4 (.k3 .n)) ?_
   refine TriE.draw (by kernel_rfl) ?_
   refine dk 2 (.i 72 (vi v7) (.i 71 (eS 7 eItem y4.2) .a)) ?_
   refine cK h fun c5 h => ?_
   refine dp 73 (.iaddr 7 71 72) (ok_iaddr_m (j := v7) rfl rfl rfl c5) ?_
   refine dp 74 (.load true 7 73) (ok_load_fm (v := .agg [vi ((ix y4.2 v7).Kind), vi ((ix y4.2 v7).From), vi ((ix y4.2 v7).To), vt ((ix y4.2 v7).Grand), vt ((ix y4.2 v7).Place), vt ((ix y4.2 v7).Who), vi ((ix y4.2 v7).Deposit)]) rfl c5 rfl) ?_
   refine dk 1 (.i 75 (.agg [vi a2.Kind, vi a2.From, vi a2.To, vt a2.Grand, vt a2.Place, vt a2.Who, vi a2.Deposit]) .a) ?_
   refine RegD.op (OpD.aggeq (cs := [vi ((ix y4.2 v7).Kind), vi ((ix y4.2 v7).From), vi ((ix y4.2 v7).To), vt ((ix y4.2 v7).Grand), vt ((ix y4.2 v7).Place), vt ((ix y4.2 v7).Who), vi ((ix y4.2 v7).Deposit)]) (ds := [vi a2.Kind, vi a2.From, vi a2.To, vt a2.Grand, vt a2.Place, vt a2.Who, vi a2.Deposit]) (b := (((ix y4.2 v7).Kind) == a2.Kind) && ((((ix y4.2 v7).From) == a2.From) && ((((ix y4.2 v7).To) == a2.To) && ((((ix y4.2 v7).Grand) == a2.Grand) && ((((ix y4.2 v7).Place) == a2.Place) && ((((ix y4.2 v7).Who) == a2.Who) && ((((ix y4.2 v7).Deposit) == a2.Deposit) && true))))))) false (cy (I0 76 (.bin .eql false 74 75))) rfl rfl rfl (by kernel_rfl) (.cons rfl (.cons rfl .nil))) ?_
   refine RegD.done rfl (by kernel_rfl) (S' := ⟨[(1, eS 7 eItem a1), (3, .ptr 0 0 0), (5, .ptr 1 0 0), (7, eS 7 eItem y4.2), (8, vi y4.1), (9, vi v6), (10, vi v7), (76, vb ((((ix y4.2 v7).Kind) == a2.Kind) && ((((ix y4.2 v7).From) == a2.From) && ((((ix y4.2 v7).To) == a2.To) && ((((ix y4.2 v7).Grand) == a2.Grand) && ((((ix y4.2 v7).Place) == a2.Place) && ((((ix y4.2 v7).Who) == a2.Who) && ((((ix y4.2 v7).Deposit) == a2.Deposit) && true))))))))], [some (.row 6 [.agg [eS 1 vt a0.Places, eS 1 vt a0.Technicians, eS 4 eRoad a0.Roads, eS 3 eGrand a0.Grands, vi a0.Change, vi a0.Lasts]]), some (.row 7 [.agg [vi a2.Kind, vi a2.From, vi a2.To, vt a2.Grand, vt a2.Place, vt a2.Who, vi a2.Deposit]])]⟩) (sc [0, 1] (by decide) (by kernel_rfl) (.cons rfl (.cons rfl .nil)) rfl rfl) ?_
   refine tc h (fun c6 h => ?_) (fun c6 h => ?_)
   ·refine tk (.k4 (.k (.d (.k (.i 9 (vi v7) .n))))) ?_
    exact Vs.intro Sees.refl ⟨(v7 : Int), rfl, h⟩
   refine q2 ?_
   exact Vs.intro sy ⟨v6, rfl, h⟩
  refine q5 ?_
  exact Vs.intro sy ⟨v6, rfl, h⟩
 refine q2 ?_
 exact Vs.intro sy ⟨(), rfl, h⟩
end Go.Proofs.Ytpmkdgnhllhaeaa.As
