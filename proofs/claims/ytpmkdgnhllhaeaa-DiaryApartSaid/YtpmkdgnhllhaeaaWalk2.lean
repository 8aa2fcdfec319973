/- The code computes what the plain functions say, part 2: no condition. -/
import Derived.Test.YtpmkdgnhllhaeaaWalk1
namespace Go.Proofs.Ytpmkdgnhllhaeaa.As
open Go Go.Proofs
set_option maxRecDepth 4000
set_option maxHeartbeats 1000000 in
theorem diary_FreeFrom_ok (n : Nat) (a0 : Diary) (a1 : List Item) (a2 : Item) (r : Int × Int) (h : diary_FreeFrom n a0 a1 a2 = some r) : FnL Try.prog 24 [.agg [eS 1 vt a0.Places, eS 1 vt a0.Technicians, eS 4 eRoad a0.Roads, eS 3 eGrand a0.Grands, vi a0.Change, vi a0.Lasts], eS 7 eItem a1, .agg [vi a2.Kind, vi a2.From, vi a2.To, vt a2.Grand, vt a2.Place, vt a2.Who, vi a2.Deposit]] [] (.tup [vi r.2, vi r.1]) [] := by
 dsimp only [diary_FreeFrom] at h
 refine fo [6, 7] Try.call24 Try.func24 rfl ?_
 refine sko (.d (.k (.i 3 (.ptr 0 0 0) (.i 5 (.ptr 1 0 0) .n)))) [some (.row 6 [.agg [eS 1 vt a0.Places, eS 1 vt a0.Technicians, eS 4 eRoad a0.Roads, eS 3 eGrand a0.Grands, vi a0.Change, vi a0.Lasts]]), some (.row 7 [.agg [vi a2.Kind, vi a2.From, vi a2.To, vt a2.Grand, vt a2.Place, vt a2.Who, vi a2.Deposit]])] ?_
 refine TriE.seqK2 h (fun (v4 : Int) => St.mk [(1, eS 7 eItem a1), (3, .ptr 0 0 0), (5, .ptr 1 0 0), (8, .p (.pointer none)), (9, vi v4)] [some (.row 6 [.agg [eS 1 vt a0.Places, eS 1 vt a0.Technicians, eS 4 eRoad a0.Roads, eS 3 eGrand a0.Grands, vi a0.Change, vi a0.Lasts]]), some (.row 7 [.agg [vi a2.Kind, vi a2.From, vi a2.To, vt a2.Grand, vt a2.Place, vt a2.Who, vi a2.Deposit]])]) (fun (t : Int × (List (Int × List (Arr2_Str × Int)))) => match t with | (v11, v12) => St.mk [(1, eS 7 eItem a1), (3, .ptr 0 0 0), (5, .ptr 1 0 0), (8, .ptr 3 0 0), (9, vi v11)] [some (.row 6 [.agg [eS 1 vt a0.Places, eS 1 vt a0.Technicians, eS 4 eRoad a0.Roads, eS 3 eGrand a0.Grands, vi a0.Change, vi a0.Lasts]]), some (.row 7 [.agg [vi a2.Kind, vi a2.From, vi a2.To, vt a2.Grand, vt a2.Place, vt a2.Who, vi a2.Deposit]]), some (.mp (mpE vi (eM eArr2_Str vi) v12)), some (.row 7 [.agg [eS 1 vt a0.Places, eS 1 vt a0.Technicians, eS 4 eRoad a0.Roads, eS 3 eGrand a0.Grands, vi a0.Change, vi a0.Lasts, .map 2]])]) ?_ ?_ ?_
 ·rintro v4 h
  refine q7 ?_
  refine sk (.k4 (.k (.i 28 (vb (v4 != (0 : Int))) .n))) ?_
  refine tc h (fun c1 h => ?_) (fun c1 h => ?_)
  ·refine sk (.i 6 (vi 0) (.i 7 (vi v4) .n)) ?_
   refine q3 ?_
   have h := si h
   subst h
   exact DoneS.ret (S' := ⟨[(6, vi 0), (7, vi v4)], []⟩) (sc [] (by decide) (by kernel_rfl) ObRen.nil rfl rfl) rfl rfl
  refine sj ?_
  refine rk 1 (.k4 (.i 33 (eS 7 eItem a1) .n)) ?_
  refine jo 34 (.len 0 33) (ok_len_m rfl) ?_
  refine jo 35 (.bin .geq false 34 (ki 100)) (n_geq (i := a1.length) (j := 100) rfl rfl) ?_
  refine jk 1 (.d2 (.k4 (.i 32 (vb (decide (100 ≤ a1.length))) .n))) ?_
  refine tc h (fun c2 h => ?_) (fun c2 h => ?_)
  ·refine sk (.i 6 (vi 0) (.i 7 (vi 8) .n)) ?_
   refine q3 ?_
   have h := si h
   subst h
   exact DoneS.ret (S' := ⟨[(6, vi 0), (7, vi 8)], []⟩) (sc [] (by decide) (by kernel_rfl) ObRen.nil rfl rfl) rfl rfl
  refine q2 ?_
  refine q1 ?_
  refine sj ?_
  refine rk 2 (.k4 (.i 36 (.agg [eS 1 vt a0.Places, eS 1 vt a0.Technicians, eS 4 eRoad a0.Roads, eS 3 eGrand a0.Grands, vi a0.Change, vi a0.Lasts]) (.i 37 (.agg [vi a2.Kind, vi a2.From, vi a2.To, vt a2.Grand, vt a2.Place, vt a2.Who, vi a2.Deposit]) .n))) ?_
  refine bK h fun y5 hy5 h => ?_
  refine jc 38 [36, 37] (diary_checkItem_ok n a0 a2 y5 hy5) ?_
  refine jk 1 (.d (.k4 (.i 10 (vi y5) .n))) ?_
  refine sk (.k4 (.k (.i 40 (vb (y5 != (0 : Int))) .n))) ?_
  refine tc h (fun c3 h => ?_) (fun c3 h => ?_)
  ·refine sk (.i 6 (vi 0) (.i 7 (vi y5) .n)) ?_
   refine q3 ?_
   have h := si h
   subst h
   exact DoneS.ret (S' := ⟨[(6, vi 0), (7, vi y5)], []⟩) (sc [] (by decide) (by kernel_rfl) ObRen.nil rfl rfl) rfl rfl
  refine q2 ?_
  refine sko (.k4 (.i 11 (.own 2 0 1) .n)) [some (.row 6 [.agg [eS 1 vt a0.Places, eS 1 vt a0.Technicians, eS 4 eRoad a0.Roads, eS 3 eGrand a0.Grands, vi a0.Change, vi a0.Lasts]]), some (.row 7 [.agg [vi a2.Kind, vi a2.From, vi a2.To, vt a2.Grand, vt a2.Place, vt a2.Who, vi a2.Deposit]]), some (.row 1 [vi a2.From])] ?_
  refine TriE.seqK h (fun (_ : Unit) => St.mk [(1, eS 7 eItem a1), (5, .ptr 0 0 0), (8, .p (.pointer none)), (11, .own 1 0 1)] [some (.row 7 [.agg [vi a2.Kind, vi a2.From, vi a2.To, vt a2.Grand, vt a2.Place, vt a2.Who, vi a2.Deposit]]), some (.row 1 [vi a2.From])]) ?_ ?_
  ·rintro ⟨⟩ h
   refine sj ?_
   refine rk 1 (.k4 (.i 81 (.own 1 0 1) .n)) ?_
   refine bK h fun y6 hy6 h => ?_
   refine jco (.tup []) 82 [81] (slices_Sort_int_ok n ([a2.From] : List Int) y6 hy6) [1] rfl (.same (row_ren vi_frz _ _ _) .nil) (.same (row_ren vi_frz _ _ _) .nil) rfl ?_
   refine jf (.d (.k4 .n)) ?_
   refine sj ?_
   refine rk 4 (.k4 (.i 84 (vi a2.To) (.i 86 (vi a2.From) .n))) ?_
   refine cK h fun c7 h => ?_
   refine jo 87 (.bin .sub false 84 86) (r_sub rfl rfl c7) ?_
   refine jk 1 (.d (.k4 (.i 16 (vi (a2.To - a2.From)) .n))) ?_
   refine TriE.seqK h (fun (_ : Unit) => St.mk [] []) ?_ ?_
   ·rintro ⟨⟩ h
    refine sk (.i 6 (vi 0) (.i 7 (vi 12) .n)) ?_
    refine q3 ?_
    have h := si h
    subst h
    exact DoneS.ret Sees.refl rfl rfl
   intro k4 h
   refine sj ?_
   refine rk 1 (.k3 (.d (.k (.i 88 (.own 1 0 1) .n)))) ?_
   refine bK h fun y7 hy7 h => ?_
   refine jco (.own 1 0 y7.1) 89 [88] (slices_Compact_int_ok n y6 0 1 y7 hy7) [1] rfl (.same (row_ren vi_frz _ _ _) .nil) (.same (row_ren vi_frz _ _ _) .nil) rfl ?_
   refine jk 2 (.d (.k4 (.i 89 (.own 1 0 y7.1) (.i 90 (vi ((y7.1 : Nat) : Int)) (.i 91 (vi 0) .n))))) ?_
   refine q4 ?_
   refine ts (.k4 (.k2 (.i 91 (vi 0) .n))) ?_
   refine TriE.loopN h (fun (v9 : Nat) => St.mk [(1, eS 7 eItem a1), (5, .ptr 0 0 0), (8, .p (.pointer none)), (16, vi (a2.To - a2.From)), (89, .own 1 0 y7.1), (90, vi ((y7.1 : Nat) : Int)), (91, vi v9)] [some (.row 7 [.agg [vi a2.Kind, vi a2.From, vi a2.To, vt a2.Grand, vt a2.Place, vt a2.Who, vi a2.Deposit]]), some (.row 1 (List.map vi y7.2))]) rfl ?_
   clear h
   rintro back v9 h
   dsimp only [diary_FreeFrom_L2] at h
   refine sj ?_
   refine jo 92 (.bin .lss false 91 90) (n_lss (i := v9) (j := y7.1) rfl rfl) ?_
   refine jf (.d (.k4 (.k3 (.i 92 (vb (decide (v9 < y7.1))) .n)))) ?_
   refine q1 ?_
   refine tc h (fun c8 h => ?_) (fun c8 h => ?_)
   ·refine q2 ?_
    refine TriE.seqK h (fun (_ : Unit) => St.mk [(1, eS 7 eItem a1), (5, .ptr 0 0 0), (8, .p (.pointer none)), (16, vi (a2.To - a2.From)), (89, .own 1 0 y7.1), (90, vi ((y7.1 : Nat) : Int)), (91, vi v9)] [some (.row 7 [.agg [vi a2.Kind, vi a2.From, vi a2.To, vt a2.Grand, vt a2.Place, vt a2.Who, vi a2.Deposit]]), some (.row 1 (List.map vi y7.2))]) ?_ ?_
    ·rintro ⟨⟩ h
     refine q6 ?_
     refine cK h fun c14 h => ?_
     refine jo 122 (.bin .add false 91 (ki 1)) (r_addn (i := v9) (j := 1) rfl rfl c14) ?_
     refine jk 1 (.d (.k4 (.k2 (.i 91 (vi ((v9 + 1 : Nat) : Int)) .n)))) ?_
     exact Vs.intro sy ⟨(v9 + 1), rfl, h⟩
    intro k3 h
    refine q4 ?_
    refine sj ?_
    refine jo 93 (.iaddr 1 89 91) (ok_iaddr_o0 (j := v9) rfl rfl rfl rfl c8) ?_
    refine cK h fun c9 h => ?_
    refine jo 94 (.load false 1 93) (ok_load_pm (l := y7.2) (e := vi) (v := vi (ix y7.2 v9)) rfl rfl c9 rfl) ?_
    refine jk 1 (.d2 (.k4 (.k3 (.i 18 (vi (ix y7.2 v9)) .n)))) ?_
    refine q1 ?_
    refine sj ?_
    refine rk 5 (.k4 (.k4 (.i 99 (vb (decide ((ix y7.2 v9) < a2.From))) .n))) ?_
    refine gj (vi (ix y7.2 v9)) 100 (.mov 18) 99 false rfl ?_
    refine gj (vi (a2.To - a2.From)) 101 (.mov 16) 99 false rfl ?_
    refine cK h fun c10 h => ?_
    refine gv 102 (.bin .add false 100 101) 99 false rfl (fun hg => (r_add rfl rfl (gor c10 hg))) (fun hg => (.cons hg (.cons hg .nil))) ?_
    refine gk (vb (decide ((1000000 : Int) < ((ix y7.2 v9) + (a2.To - a2.From))))) 103 (.bin .gtr false 102 (ki 1000000)) 99 false rfl (fun hg => (.cons hg (.cons rfl .nil))) ?_
    refine po 104 99 103 rfl rfl ?_
    refine jf (.d4 (.d (.k4 (.k4 (.i 104 (vb ((decide ((ix y7.2 v9) < a2.From)) || (decide ((1000000 : Int) < ((ix y7.2 v9) + (a2.To - a2.From)))))) .n))))) ?_
    refine tc h (fun c11 h => ?_) (fun c11 h => ?_)
    ·refine q5 ?_
     exact Vs.intro sy ⟨(), rfl, h⟩
    refine q2 ?_
    refine sko (.k4 (.k4 (.i 19 (.ptr 2 0 0) .n))) [some (.row 7 [.agg [vi a2.Kind, vi a2.From, vi a2.To, vt a2.Grand, vt a2.Place, vt a2.Who, vi a2.Deposit]]), some (.row 1 (List.map vi y7.2)), some (.row 7 [.agg [vi a2.Kind, vi a2.From, vi a2.To, vt a2.Grand, vt a2.Place, vt a2.Who, vi a2.Deposit]])] ?_
    refine sj ?_
    refine rk 3 (.k4 (.k4 (.k (.i 106 (vi (ix y7.2 v9)) (.i 107 (vi (ix y7.2 v9)) (.i 108 (vi (a2.To - a2.From)) .n)))))) ?_
    refine cK h fun c12 h => ?_
    refine jo 109 (.bin .add false 107 108) (r_add rfl rfl c12) ?_
    refine jko 4 (.d (.k4 (.k4 (.k .n)))) [some (.row 7 [.agg [vi a2.Kind, vi a2.From, vi a2.To, vt a2.Grand, vt a2.Place, vt a2.Who, vi a2.Deposit]]), some (.row 1 (List.map vi y7.2)), some (.row 7 [.agg [vi a2.Kind, vi (ix y7.2 v9), vi ((ix y7.2 v9) + (a2.To - a2.From)), vt a2.Grand, vt a2.Place, vt a2.Who, vi a2.Deposit]])] ?_
    refine sj ?_
    refine rk 3 (.k4 (.k4 (.i 113 (.p (.pointer none)) (.i 114 (eS 7 eItem a1) (.i 115 (.agg [vi a2.Kind, vi (ix y7.2 v9), vi ((ix y7.2 v9) + (a2.To - a2.From)), vt a2.Grand, vt a2.Place, vt a2.Who, vi a2.Deposit]) .n))))) ?_
    refine bK h fun y10 hy10 h => ?_
    refine jc 116 [113, 114, 115] (diary_plan_add_ok n a1 (Item.mk a2.Kind (ix y7.2 v9) ((ix y7.2 v9) + (a2.To - a2.From)) a2.Grand a2.Place a2.Who a2.Deposit) y10 hy10) ?_
    refine jk 5 (.d (.k4 (.k4 (.i 21 (vi y10.1) .n)))) ?_
    refine sk (.k4 (.k4 (.i 120 (vb (y10.1 == (0 : Int))) .n))) ?_
    refine tc h (fun c13 h => ?_) (fun c13 h => ?_)
    ·refine sk (.i 6 (vi (ix y7.2 v9)) (.i 7 (vi 0) .n)) ?_
     refine q3 ?_
     have h := si h
     subst h
     exact DoneS.ret (S' := ⟨[(6, vi (ix y7.2 v9)), (7, vi 0)], []⟩) (sc [] (by decide) (by kernel_rfl) ObRen.nil rfl rfl) rfl rfl
    refine q2 ?_
    exact Vs.intro (sc [0, 1] (by decide) (by kernel_rfl) (.cons rfl (obRen_row vi_frz rfl .nil)) rfl rfl) ⟨(), rfl, h⟩
   refine q5 ?_
   exact Vs.intro (sc [] (by decide) (by kernel_rfl) ObRen.nil rfl rfl) ⟨(), rfl, h⟩
  intro k2 h
  refine sj ?_
  refine rk 1 (.k4 (.k (.i 45 (eS 7 eItem a1) .n))) ?_
  refine jo 46 (.len 0 45) (ok_len_m rfl) ?_
  refine jk 1 (.d (.k4 (.k2 (.i 46 (vi (a1.length : Int)) (.i 47 (vi 0) .n))))) ?_
  refine q4 ?_
  refine TriE.loopN h (fun (_ : Unit) => St.mk [(1, eS 7 eItem a1), (3, .ptr 0 0 0), (5, .ptr 1 0 0), (8, .p (.pointer none)), (11, .own 2 0 1), (45, eS 7 eItem a1), (46, vi (a1.length : Int)), (47, vi 0)] [some (.row 6 [.agg [eS 1 vt a0.Places, eS 1 vt a0.Technicians, eS 4 eRoad a0.Roads, eS 3 eGrand a0.Grands, vi a0.Change, vi a0.Lasts]]), some (.row 7 [.agg [vi a2.Kind, vi a2.From, vi a2.To, vt a2.Grand, vt a2.Place, vt a2.Who, vi a2.Deposit]]), some (.row 1 [vi a2.From])]) rfl ?_
  clear h
  rintro back ⟨⟩ h
  dsimp only [diary_FreeFrom_L1] at h
  refine sj ?_
  refine jo 48 (.bin .lss false 47 46) (n_lss (i := 0) (j := a1.length) rfl rfl) ?_
  refine jf (.d (.k4 (.k4 (.i 48 (vb (decide (0 < a1.length))) .n)))) ?_
  refine q1 ?_
  refine tc h (fun c4 h => ?_) (fun c4 h => ?_)
  ·refine q2 ?_
   refine q7 ?_
   refine sj ?_
   refine jo 49 (.iaddr 7 45 47) (ok_iaddr_m (j := 0) rfl rfl rfl c4) ?_
   refine jo 50 (.load true 7 49) (ok_load_fm (v := .agg [vi ((ix a1 0).Kind), vi ((ix a1 0).From), vi ((ix a1 0).To), vt ((ix a1 0).Grand), vt ((ix a1 0).Place), vt ((ix a1 0).Who), vi ((ix a1 0).Deposit)]) rfl c4 rfl) ?_
   refine jko 2 (.d2 (.k4 (.k4 (.i 13 (.ptr 3 0 0) .n)))) [some (.row 6 [.agg [eS 1 vt a0.Places, eS 1 vt a0.Technicians, eS 4 eRoad a0.Roads, eS 3 eGrand a0.Grands, vi a0.Change, vi a0.Lasts]]), some (.row 7 [.agg [vi a2.Kind, vi a2.From, vi a2.To, vt a2.Grand, vt a2.Place, vt a2.Who, vi a2.Deposit]]), some (.row 1 [vi a2.From]), some (.row 7 [.agg [vi ((ix a1 0).Kind), vi ((ix a1 0).From), vi ((ix a1 0).To), vt ((ix a1 0).Grand), vt ((ix a1 0).Place), vt ((ix a1 0).Who), vi ((ix a1 0).Deposit)]])] ?_
   refine sj ?_
   refine rk 9 (.k4 (.d (.k4 (.i 51 (.own 2 0 1) (.i 53 (vi ((ix a1 0).From)) (.i 55 (vi ((ix a1 0).To)) (.i 57 (vi ((ix a1 0).To)) (.i 59 (vi a0.Change) .n)))))))) ?_
   refine cK h fun c5 h => ?_
   refine jo 60 (.bin .add false 57 59) (r_add rfl rfl c5) ?_
   refine rko 1 (.d (.k4 (.k4 (.k (.i 61 (.own 4 0 3) .n))))) [some (.row 6 [.agg [eS 1 vt a0.Places, eS 1 vt a0.Technicians, eS 4 eRoad a0.Roads, eS 3 eGrand a0.Grands, vi a0.Change, vi a0.Lasts]]), some (.row 7 [.agg [vi a2.Kind, vi a2.From, vi a2.To, vt a2.Grand, vt a2.Place, vt a2.Who, vi a2.Deposit]]), some (.row 1 [vi a2.From]), some (.row 7 [.agg [vi ((ix a1 0).Kind), vi ((ix a1 0).From), vi ((ix a1 0).To), vt ((ix a1 0).Grand), vt ((ix a1 0).Place), vt ((ix a1 0).Who), vi ((ix a1 0).Deposit)]]), some (.row 1 [vi ((ix a1 0).From), vi ((ix a1 0).To), vi (((ix a1 0).To) + a0.Change)])] ?_
   refine cK h fun c6 h => ?_
   refine jx 62 (.app 1 8 51 61) _ (ok_app_own (l := ([a2.From] : List Int)) (l2 := ([(ix a1 0).From, (ix a1 0).To, ((ix a1 0).To) + a0.Change] : List Int)) (e := vi) (u := .own 4 0 3) rfl rfl rfl rfl rfl c6) rfl rfl ?_
   refine jk 1 (.d (.k4 (.k4 (.i 11 (.own 5 0 ((([a2.From] : List Int) ++ ([(ix a1 0).From, (ix a1 0).To, ((ix a1 0).To) + a0.Change] : List Int)).length)) .n)))) ?_
   refine sj ?_
   refine rk 5 (.k4 (.k4 (.k (.i 64 (.p (.pointer none)) (.i 66 (vt ((ix a1 0).Place)) (.i 68 (vt a2.Place) .n)))))) ?_
   cases h
  refine q5 ?_
  exact Vs.intro (sc [1, 2] (by decide) (by kernel_rfl) (.cons rfl (.cons rfl .nil)) rfl rfl) ⟨(), rfl, h⟩
 ·rintro ⟨v11, v12⟩ h
  refine q7 ?_
  refine sk (.k4 (.k (.i 28 (vb (v11 != (0 : Int))) .n))) ?_
  refine tc h (fun c15 h => ?_) (fun c15 h => ?_)
  ·refine sk (.i 6 (vi 0) (.i 7 (vi v11) .n)) ?_
   refine q3 ?_
   have h := si h
   subst h
   exact DoneS.ret (S' := ⟨[(6, vi 0), (7, vi v11)], []⟩) (sc [] (by decide) (by kernel_rfl) ObRen.nil rfl rfl) rfl rfl
  refine sj ?_
  refine rk 1 (.k4 (.i 33 (eS 7 eItem a1) .n)) ?_
  refine jo 34 (.len 0 33) (ok_len_m rfl) ?_
  refine jo 35 (.bin .geq false 34 (ki 100)) (n_geq (i := a1.length) (j := 100) rfl rfl) ?_
  refine jk 1 (.d2 (.k4 (.i 32 (vb (decide (100 ≤ a1.length))) .n))) ?_
  refine tc h (fun c16 h => ?_) (fun c16 h => ?_)
  ·refine sk (.i 6 (vi 0) (.i 7 (vi 8) .n)) ?_
   refine q3 ?_
   have h := si h
   subst h
   exact DoneS.ret (S' := ⟨[(6, vi 0), (7, vi 8)], []⟩) (sc [] (by decide) (by kernel_rfl) ObRen.nil rfl rfl) rfl rfl
  refine q2 ?_
  refine q1 ?_
  refine sj ?_
  refine rk 2 (.k4 (.i 36 (.agg [eS 1 vt a0.Places, eS 1 vt a0.Technicians, eS 4 eRoad a0.Roads, eS 3 eGrand a0.Grands, vi a0.Change, vi a0.Lasts]) (.i 37 (.agg [vi a2.Kind, vi a2.From, vi a2.To, vt a2.Grand, vt a2.Place, vt a2.Who, vi a2.Deposit]) .n))) ?_
  refine bK h fun y13 hy13 h => ?_
  refine jc 38 [36, 37] (diary_checkItem_ok n a0 a2 y13 hy13) ?_
  refine jk 1 (.d (.k4 (.i 10 (vi y13) .n))) ?_
  refine sk (.k4 (.k (.i 40 (vb (y13 != (0 : Int))) .n))) ?_
  refine tc h (fun c17 h => ?_) (fun c17 h => ?_)
  ·refine sk (.i 6 (vi 0) (.i 7 (vi y13) .n)) ?_
   refine q3 ?_
   have h := si h
   subst h
   exact DoneS.ret (S' := ⟨[(6, vi 0), (7, vi y13)], []⟩) (sc [] (by decide) (by kernel_rfl) ObRen.nil rfl rfl) rfl rfl
  refine q2 ?_
  refine sko (.k4 (.i 11 (.own 4 0 1) .n)) [some (.row 6 [.agg [eS 1 vt a0.Places, eS 1 vt a0.Technicians, eS 4 eRoad a0.Roads, eS 3 eGrand a0.Grands, vi a0.Change, vi a0.Lasts]]), some (.row 7 [.agg [vi a2.Kind, vi a2.From, vi a2.To, vt a2.Grand, vt a2.Place, vt a2.Who, vi a2.Deposit]]), some (.mp (mpE vi (eM eArr2_Str vi) v12)), some (.row 7 [.agg [eS 1 vt a0.Places, eS 1 vt a0.Technicians, eS 4 eRoad a0.Roads, eS 3 eGrand a0.Grands, vi a0.Change, vi a0.Lasts, .map 2]]), some (.row 1 [vi a2.From])] ?_
  refine TriE.seqK h (fun (t : (List Int) × (List (Int × List (Arr2_Str × Int)))) => match t with | (v23, v24) => St.mk [(1, eS 7 eItem a1), (5, .ptr 0 0 0), (8, .ptr 2 0 0), (11, .own 3 0 v23.length)] [some (.row 7 [.agg [vi a2.Kind, vi a2.From, vi a2.To, vt a2.Grand, vt a2.Place, vt a2.Who, vi a2.Deposit]]), some (.mp (mpE vi (eM eArr2_Str vi) v24)), some (.row 7 [.agg [eS 1 vt a0.Places, eS 1 vt a0.Technicians, eS 4 eRoad a0.Roads, eS 3 eGrand a0.Grands, vi a0.Change, vi a0.Lasts, .map 1]]), some (.row 1 (List.map vi v23))]) ?_ ?_
  ·rintro ⟨v23, v24⟩ h
   refine sj ?_
   refine rk 1 (.k4 (.i 81 (.own 3 0 v23.length) .n)) ?_
   refine bK h fun y25 hy25 h => ?_
   refine jco (.tup []) 82 [81] (slices_Sort_int_ok n v23 y25 hy25) [3] rfl (.same (row_ren vi_frz _ _ _) .nil) (.same (row_ren vi_frz _ _ _) .nil) rfl ?_
   refine cK h fun c25 h => ?_
   refine RegJ.sees (S' := ⟨[(1, eS 7 eItem a1), (5, .ptr 0 0 0), (8, .ptr 2 0 0), (11, .own 3 0 y25.length), (81, .own 3 0 y25.length), (82, .tup [])], [some (.row 7 [.agg [vi a2.Kind, vi a2.From, vi a2.To, vt a2.Grand, vt a2.Place, vt a2.Who, vi a2.Deposit]]), some (.mp (mpE vi (eM eArr2_Str vi) v24)), some (.row 7 [.agg [eS 1 vt a0.Places, eS 1 vt a0.Technicians, eS 4 eRoad a0.Roads, eS 3 eGrand a0.Grands, vi a0.Change, vi a0.Lasts, .map 1]]), some (.row 1 (List.map vi y25))]⟩) (Sees.cov (Cov.mk2 (rs := [0, 1, 2, 3]) (by decide) rfl rfl (.cons (.inl rfl) (.cons (.inl rfl) (.cons (.inl rfl) (.cons (.inl (by rw [show v23.length = y25.length from of_decide_eq_true c25]; rfl)) (.cons (.inl (by rw [show v23.length = y25.length from of_decide_eq_true c25]; rfl)) (.cons (.inl rfl) .nil)))))) (.cons rfl (obRen_mp vi_frz (eM_frz eArr2_Str vi) rfl (.cons rfl (obRen_row vi_frz rfl .nil)))))) ?_
   refine jf (.k4 .n) ?_
   refine sj ?_
   refine rk 4 (.k4 (.i 84 (vi a2.To) (.i 86 (vi a2.From) .n))) ?_
   refine cK h fun c26 h => ?_
   refine jo 87 (.bin .sub false 84 86) (r_sub rfl rfl c26) ?_
   refine jk 1 (.d (.k4 (.i 16 (vi (a2.To - a2.From)) .n))) ?_
   refine TriE.seqK h (fun (_ : Unit) => St.mk [] []) ?_ ?_
   ·rintro ⟨⟩ h
    refine sk (.i 6 (vi 0) (.i 7 (vi 12) .n)) ?_
    refine q3 ?_
    have h := si h
    subst h
    exact DoneS.ret Sees.refl rfl rfl
   intro k9 h
   refine sj ?_
   refine rk 1 (.k3 (.d (.k (.i 88 (.own 3 0 y25.length) .n)))) ?_
   refine bK h fun y26 hy26 h => ?_
   refine jco (.own 3 0 y26.1) 89 [88] (slices_Compact_int_ok n y25 0 y25.length y26 hy26) [3] rfl (.same (row_ren vi_frz _ _ _) .nil) (.same (row_ren vi_frz _ _ _) .nil) rfl ?_
   refine cK h fun c27 h => ?_
   refine RegJ.sees (S' := ⟨[(1, eS 7 eItem a1), (5, .ptr 0 0 0), (8, .ptr 2 0 0), (16, vi (a2.To - a2.From)), (88, .own 3 0 y26.2.length), (89, .own 3 0 y26.1)], [some (.row 7 [.agg [vi a2.Kind, vi a2.From, vi a2.To, vt a2.Grand, vt a2.Place, vt a2.Who, vi a2.Deposit]]), some (.mp (mpE vi (eM eArr2_Str vi) v24)), some (.row 7 [.agg [eS 1 vt a0.Places, eS 1 vt a0.Technicians, eS 4 eRoad a0.Roads, eS 3 eGrand a0.Grands, vi a0.Change, vi a0.Lasts, .map 1]]), some (.row 1 (List.map vi y26.2))]⟩) (Sees.cov (Cov.mk2 (rs := [0, 1, 2, 3]) (by decide) rfl rfl (.cons (.inl rfl) (.cons (.inl rfl) (.cons (.inl rfl) (.cons (.inl rfl) (.cons (.inl (by rw [show y25.length = y26.2.length from of_decide_eq_true c27]; rfl)) (.cons (.inl rfl) .nil)))))) (.cons rfl (obRen_mp vi_frz (eM_frz eArr2_Str vi) rfl (.cons rfl (obRen_row vi_frz rfl .nil)))))) ?_
   refine jk 2 (.k4 (.d (.k (.i 90 (vi ((y26.1 : Nat) : Int)) (.i 91 (vi 0) .n))))) ?_
   refine q4 ?_
   refine ts (.k4 (.k2 (.i 91 (vi 0) .n))) ?_
   refine TriE.loopN h (fun (t : Nat × (List (Int × List (Arr2_Str × Int)))) => match t with | (v29, v30) => St.mk [(1, eS 7 eItem a1), (5, .ptr 0 0 0), (8, .ptr 2 0 0), (16, vi (a2.To - a2.From)), (89, .own 3 0 y26.1), (90, vi ((y26.1 : Nat) : Int)), (91, vi v29)] [some (.row 7 [.agg [vi a2.Kind, vi a2.From, vi a2.To, vt a2.Grand, vt a2.Place, vt a2.Who, vi a2.Deposit]]), some (.mp (mpE vi (eM eArr2_Str vi) v30)), some (.row 7 [.agg [eS 1 vt a0.Places, eS 1 vt a0.Technicians, eS 4 eRoad a0.Roads, eS 3 eGrand a0.Grands, vi a0.Change, vi a0.Lasts, .map 1]]), some (.row 1 (List.map vi y26.2))]) rfl ?_
   clear h
   rintro back ⟨v29, v30⟩ h
   dsimp only [diary_FreeFrom_L4] at h
   refine sj ?_
   refine jo 92 (.bin .lss false 91 90) (n_lss (i := v29) (j := y26.1) rfl rfl) ?_
   refine jf (.d (.k4 (.k3 (.i 92 (vb (decide (v29 < y26.1))) .n)))) ?_
   refine q1 ?_
   refine tc h (fun c28 h => ?_) (fun c28 h => ?_)
   ·refine q2 ?_
    refine TriE.seqK h (fun (v32 : (List (Int × List (Arr2_Str × Int)))) => St.mk [(1, eS 7 eItem a1), (5, .ptr 0 0 0), (8, .ptr 2 0 0), (16, vi (a2.To - a2.From)), (89, .own 3 0 y26.1), (90, vi ((y26.1 : Nat) : Int)), (91, vi v29)] [some (.row 7 [.agg [vi a2.Kind, vi a2.From, vi a2.To, vt a2.Grand, vt a2.Place, vt a2.Who, vi a2.Deposit]]), some (.mp (mpE vi (eM eArr2_Str vi) v32)), some (.row 7 [.agg [eS 1 vt a0.Places, eS 1 vt a0.Technicians, eS 4 eRoad a0.Roads, eS 3 eGrand a0.Grands, vi a0.Change, vi a0.Lasts, .map 1]]), some (.row 1 (List.map vi y26.2))]) ?_ ?_
    ·rintro v32 h
     refine q6 ?_
     refine cK h fun c34 h => ?_
     refine jo 122 (.bin .add false 91 (ki 1)) (r_addn (i := v29) (j := 1) rfl rfl c34) ?_
     refine jk 1 (.d (.k4 (.k2 (.i 91 (vi ((v29 + 1 : Nat) : Int)) .n)))) ?_
     exact Vs.intro sy ⟨(v29 + 1, v32), rfl, h⟩
    intro k8 h
    refine q4 ?_
    refine sj ?_
    refine jo 93 (.iaddr 1 89 91) (ok_iaddr_o0 (j := v29) rfl rfl rfl rfl c28) ?_
    refine cK h fun c29 h => ?_
    refine jo 94 (.load false 1 93) (ok_load_pm (l := y26.2) (e := vi) (v := vi (ix y26.2 v29)) rfl rfl c29 rfl) ?_
    refine jk 1 (.d2 (.k4 (.k3 (.i 18 (vi (ix y26.2 v29)) .n)))) ?_
    refine q1 ?_
    refine sj ?_
    refine rk 5 (.k4 (.k4 (.i 99 (vb (decide ((ix y26.2 v29) < a2.From))) .n))) ?_
    refine gj (vi (ix y26.2 v29)) 100 (.mov 18) 99 false rfl ?_
    refine gj (vi (a2.To - a2.From)) 101 (.mov 16) 99 false rfl ?_
    refine cK h fun c30 h => ?_
    refine gv 102 (.bin .add false 100 101) 99 false rfl (fun hg => (r_add rfl rfl (gor c30 hg))) (fun hg => (.cons hg (.cons hg .nil))) ?_
    refine gk (vb (decide ((1000000 : Int) < ((ix y26.2 v29) + (a2.To - a2.From))))) 103 (.bin .gtr false 102 (ki 1000000)) 99 false rfl (fun hg => (.cons hg (.cons rfl .nil))) ?_
    refine po 104 99 103 rfl rfl ?_
    refine jf (.d4 (.d (.k4 (.k4 (.i 104 (vb ((decide ((ix y26.2 v29) < a2.From)) || (decide ((1000000 : Int) < ((ix y26.2 v29) + (a2.To - a2.From)))))) .n))))) ?_
    refine tc h (fun c31 h => ?_) (fun c31 h => ?_)
    ·refine q5 ?_
     exact Vs.intro sy ⟨v30, rfl, h⟩
    refine q2 ?_
    refine sko (.k4 (.k4 (.i 19 (.ptr 4 0 0) .n))) [some (.row 7 [.agg [vi a2.Kind, vi a2.From, vi a2.To, vt a2.Grand, vt a2.Place, vt a2.Who, vi a2.Deposit]]), some (.mp (mpE vi (eM eArr2_Str vi) v30)), some (.row 7 [.agg [eS 1 vt a0.Places, eS 1 vt a0.Technicians, eS 4 eRoad a0.Roads, eS 3 eGrand a0.Grands, vi a0.Change, vi a0.Lasts, .map 1]]), some (.row 1 (List.map vi y26.2)), some (.row 7 [.agg [vi a2.Kind, vi a2.From, vi a2.To, vt a2.Grand, vt a2.Place, vt a2.Who, vi a2.Deposit]])] ?_
    refine sj ?_
    refine rk 3 (.k4 (.k4 (.k (.i 106 (vi (ix y26.2 v29)) (.i 107 (vi (ix y26.2 v29)) (.i 108 (vi (a2.To - a2.From)) .n)))))) ?_
    refine cK h fun c32 h => ?_
    refine jo 109 (.bin .add false 107 108) (r_add rfl rfl c32) ?_
    refine jko 4 (.d (.k4 (.k4 (.k .n)))) [some (.row 7 [.agg [vi a2.Kind, vi a2.From, vi a2.To, vt a2.Grand, vt a2.Place, vt a2.Who, vi a2.Deposit]]), some (.mp (mpE vi (eM eArr2_Str vi) v30)), some (.row 7 [.agg [eS 1 vt a0.Places, eS 1 vt a0.Technicians, eS 4 eRoad a0.Roads, eS 3 eGrand a0.Grands, vi a0.Change, vi a0.Lasts, .map 1]]), some (.row 1 (List.map vi y26.2)), some (.row 7 [.agg [vi a2.Kind, vi (ix y26.2 v29), vi ((ix y26.2 v29) + (a2.To - a2.From)), vt a2.Grand, vt a2.Place, vt a2.Who, vi a2.Deposit]])] ?_
    refine sj ?_
    refine rk 3 (.k4 (.k4 (.i 113 (.ptr 2 0 0) (.i 114 (eS 7 eItem a1) (.i 115 (.agg [vi a2.Kind, vi (ix y26.2 v29), vi ((ix y26.2 v29) + (a2.To - a2.From)), vt a2.Grand, vt a2.Place, vt a2.Who, vi a2.Deposit]) .n))))) ?_
    refine bK h fun y31 hy31 h => ?_
    refine jco (.tup [eS 7 eItem y31.2.2, vi y31.1]) 116 [113, 114, 115] (diary_plan_add_2_ok n a0.Places a0.Technicians a0.Roads a0.Grands a0.Change a0.Lasts v30 a1 (Item.mk a2.Kind (ix y26.2 v29) ((ix y26.2 v29) + (a2.To - a2.From)) a2.Grand a2.Place a2.Who a2.Deposit) y31 hy31) [2, 1] rfl (.cons rfl (.same (mp_ren vi_frz (eM_frz eArr2_Str vi) _ _) .nil)) (.cons rfl (.same (mp_ren vi_frz (eM_frz eArr2_Str vi) _ _) .nil)) rfl ?_
    refine jk 5 (.d (.k4 (.k4 (.i 21 (vi y31.1) .n)))) ?_
    refine sk (.k4 (.k4 (.i 120 (vb (y31.1 == (0 : Int))) .n))) ?_
    refine tc h (fun c33 h => ?_) (fun c33 h => ?_)
    ·refine sk (.i 6 (vi (ix y26.2 v29)) (.i 7 (vi 0) .n)) ?_
     refine q3 ?_
     have h := si h
     subst h
     exact DoneS.ret (S' := ⟨[(6, vi (ix y26.2 v29)), (7, vi 0)], []⟩) (sc [] (by decide) (by kernel_rfl) ObRen.nil rfl rfl) rfl rfl
    refine q2 ?_
    exact Vs.intro (sc [0, 1, 2, 3] (by decide) (by kernel_rfl) (.cons rfl (obRen_mp vi_frz (eM_frz eArr2_Str vi) rfl (.cons rfl (obRen_row vi_frz rfl .nil)))) rfl rfl) ⟨y31.2.1, rfl, h⟩
   refine q5 ?_
   exact Vs.intro (sc [] (by decide) (by kernel_rfl) ObRen.nil rfl rfl) ⟨(), rfl, h⟩
  intro k7 h
  refine sj ?_
  refine rk 1 (.k4 (.k (.i 45 (eS 7 eItem a1) .n))) ?_
  refine jo 46 (.len 0 45) (ok_len_m rfl) ?_
  refine jk 1 (.d (.k4 (.k2 (.i 46 (vi (a1.length : Int)) (.i 47 (vi 0) .n))))) ?_
  refine q4 ?_
  refine TriE.sees (S' := ⟨[(1, eS 7 eItem a1), (3, .ptr 0 0 0), (5, .ptr 1 0 0), (8, .ptr 3 0 0), (11, .own 4 0 ([a2.From] : List Int).length), (45, eS 7 eItem a1), (46, vi (a1.length : Int)), (47, vi 0)], [some (.row 6 [.agg [eS 1 vt a0.Places, eS 1 vt a0.Technicians, eS 4 eRoad a0.Roads, eS 3 eGrand a0.Grands, vi a0.Change, vi a0.Lasts]]), some (.row 7 [.agg [vi a2.Kind, vi a2.From, vi a2.To, vt a2.Grand, vt a2.Place, vt a2.Who, vi a2.Deposit]]), some (.mp (mpE vi (eM eArr2_Str vi) v12)), some (.row 7 [.agg [eS 1 vt a0.Places, eS 1 vt a0.Technicians, eS 4 eRoad a0.Roads, eS 3 eGrand a0.Grands, vi a0.Change, vi a0.Lasts, .map 2]]), some (.row 1 (List.map vi ([a2.From] : List Int)))]⟩) sy ?_
  refine TriE.loopN h (fun (t : Nat × (List Int) × (List (Int × List (Arr2_Str × Int)))) => match t with | (v17, v18, v19) => St.mk [(1, eS 7 eItem a1), (3, .ptr 0 0 0), (5, .ptr 1 0 0), (8, .ptr 3 0 0), (11, .own 4 0 v18.length), (45, eS 7 eItem a1), (46, vi (a1.length : Int)), (47, vi v17)] [some (.row 6 [.agg [eS 1 vt a0.Places, eS 1 vt a0.Technicians, eS 4 eRoad a0.Roads, eS 3 eGrand a0.Grands, vi a0.Change, vi a0.Lasts]]), some (.row 7 [.agg [vi a2.Kind, vi a2.From, vi a2.To, vt a2.Grand, vt a2.Place, vt a2.Who, vi a2.Deposit]]), some (.mp (mpE vi (eM eArr2_Str vi) v19)), some (.row 7 [.agg [eS 1 vt a0.Places, eS 1 vt a0.Technicians, eS 4 eRoad a0.Roads, eS 3 eGrand a0.Grands, vi a0.Change, vi a0.Lasts, .map 2]]), some (.row 1 (List.map vi v18))]) rfl ?_
  clear h
  rintro back ⟨v17, v18, v19⟩ h
  dsimp only [diary_FreeFrom_L3] at h
  refine sj ?_
  refine jo 48 (.bin .lss false 47 46) (n_lss (i := v17) (j := a1.length) rfl rfl) ?_
  refine jf (.d (.k4 (.k4 (.i 48 (vb (decide (v17 < a1.length))) .n)))) ?_
  refine q1 ?_
  refine tc h (fun c18 h => ?_) (fun c18 h => ?_)
  ·refine q2 ?_
   refine TriE.seqK h (fun (t : (List Int) × (List (Int × List (Arr2_Str × Int)))) => match t with | (v21, v22) => St.mk [(1, eS 7 eItem a1), (3, .ptr 0 0 0), (5, .ptr 1 0 0), (8, .ptr 3 0 0), (45, eS 7 eItem a1), (46, vi (a1.length : Int)), (47, vi v17), (11, .own 4 0 v21.length)] [some (.row 6 [.agg [eS 1 vt a0.Places, eS 1 vt a0.Technicians, eS 4 eRoad a0.Roads, eS 3 eGrand a0.Grands, vi a0.Change, vi a0.Lasts]]), some (.row 7 [.agg [vi a2.Kind, vi a2.From, vi a2.To, vt a2.Grand, vt a2.Place, vt a2.Who, vi a2.Deposit]]), some (.mp (mpE vi (eM eArr2_Str vi) v22)), some (.row 7 [.agg [eS 1 vt a0.Places, eS 1 vt a0.Technicians, eS 4 eRoad a0.Roads, eS 3 eGrand a0.Grands, vi a0.Change, vi a0.Lasts, .map 2]]), some (.row 1 (List.map vi v21))]) ?_ ?_
   ·rintro ⟨v21, v22⟩ h
    refine q6 ?_
    refine cK h fun c24 h => ?_
    refine jo 80 (.bin .add false 47 (ki 1)) (r_addn (i := v17) (j := 1) rfl rfl c24) ?_
    refine jk 1 (.d (.k4 (.k2 (.d (.k (.i 47 (vi ((v17 + 1 : Nat) : Int)) .n)))))) ?_
    exact Vs.intro sy ⟨(v17 + 1, v21, v22), rfl, h⟩
   intro k6 h
   refine q4 ?_
   refine sj ?_
   refine jo 49 (.iaddr 7 45 47) (ok_iaddr_m (j := v17) rfl rfl rfl c18) ?_
   refine jo 50 (.load true 7 49) (ok_load_fm (v := .agg [vi ((ix a1 v17).Kind), vi ((ix a1 v17).From), vi ((ix a1 v17).To), vt ((ix a1 v17).Grand), vt ((ix a1 v17).Place), vt ((ix a1 v17).Who), vi ((ix a1 v17).Deposit)]) rfl c18 rfl) ?_
   refine jko 2 (.d2 (.k4 (.k4 (.i 13 (.ptr 5 0 0) .n)))) [some (.row 6 [.agg [eS 1 vt a0.Places, eS 1 vt a0.Technicians, eS 4 eRoad a0.Roads, eS 3 eGrand a0.Grands, vi a0.Change, vi a0.Lasts]]), some (.row 7 [.agg [vi a2.Kind, vi a2.From, vi a2.To, vt a2.Grand, vt a2.Place, vt a2.Who, vi a2.Deposit]]), some (.mp (mpE vi (eM eArr2_Str vi) v19)), some (.row 7 [.agg [eS 1 vt a0.Places, eS 1 vt a0.Technicians, eS 4 eRoad a0.Roads, eS 3 eGrand a0.Grands, vi a0.Change, vi a0.Lasts, .map 2]]), some (.row 1 (List.map vi v18)), some (.row 7 [.agg [vi ((ix a1 v17).Kind), vi ((ix a1 v17).From), vi ((ix a1 v17).To), vt ((ix a1 v17).Grand), vt ((ix a1 v17).Place), vt ((ix a1 v17).Who), vi ((ix a1 v17).Deposit)]])] ?_
   refine sj ?_
   refine rk 9 (.k4 (.d (.k4 (.i 51 (.own 4 0 v18.length) (.i 53 (vi ((ix a1 v17).From)) (.i 55 (vi ((ix a1 v17).To)) (.i 57 (vi ((ix a1 v17).To)) (.i 59 (vi a0.Change) .n)))))))) ?_
   refine cK h fun c19 h => ?_
   refine jo 60 (.bin .add false 57 59) (r_add rfl rfl c19) ?_
   refine rko 1 (.d (.k4 (.k4 (.k (.i 61 (.own 6 0 3) .n))))) [some (.row 6 [.agg [eS 1 vt a0.Places, eS 1 vt a0.Technicians, eS 4 eRoad a0.Roads, eS 3 eGrand a0.Grands, vi a0.Change, vi a0.Lasts]]), some (.row 7 [.agg [vi a2.Kind, vi a2.From, vi a2.To, vt a2.Grand, vt a2.Place, vt a2.Who, vi a2.Deposit]]), some (.mp (mpE vi (eM eArr2_Str vi) v19)), some (.row 7 [.agg [eS 1 vt a0.Places, eS 1 vt a0.Technicians, eS 4 eRoad a0.Roads, eS 3 eGrand a0.Grands, vi a0.Change, vi a0.Lasts, .map 2]]), some (.row 1 (List.map vi v18)), some (.row 7 [.agg [vi ((ix a1 v17).Kind), vi ((ix a1 v17).From), vi ((ix a1 v17).To), vt ((ix a1 v17).Grand), vt ((ix a1 v17).Place), vt ((ix a1 v17).Who), vi ((ix a1 v17).Deposit)]]), some (.row 1 [vi ((ix a1 v17).From), vi ((ix a1 v17).To), vi (((ix a1 v17).To) + a0.Change)])] ?_
   refine cK h fun c20 h => ?_
   refine jx 62 (.app 1 8 51 61) _ (ok_app_own (l := v18) (l2 := ([(ix a1 v17).From, (ix a1 v17).To, ((ix a1 v17).To) + a0.Change] : List Int)) (e := vi) (u := .own 6 0 3) rfl rfl rfl rfl rfl c20) rfl rfl ?_
   refine jk 1 (.d (.k4 (.k4 (.i 11 (.own 7 0 ((v18 ++ ([(ix a1 v17).From, (ix a1 v17).To, ((ix a1 v17).To) + a0.Change] : List Int)).length)) .n)))) ?_
   refine sj ?_
   refine rk 5 (.k4 (.k4 (.k (.i 64 (.ptr 3 0 0) (.i 66 (vt ((ix a1 v17).Place)) (.i 68 (vt a2.Place) .n)))))) ?_
   refine bK h fun y20 hy20 h => ?_
   refine jco (.tup [vi y20.1, vb y20.2.1]) 69 [64, 66, 68, (ki 1)] (diary_plan_distance_ok n a0.Places a0.Technicians a0.Roads a0.Grands a0.Change a0.Lasts v19 ((ix a1 v17).Place) a2.Place 1 y20 hy20) [3, 2] rfl (.cons rfl (.same (mp_ren vi_frz (eM_frz eArr2_Str vi) _ _) .nil)) (.cons rfl (.same (mp_ren vi_frz (eM_frz eArr2_Str vi) _ _) .nil)) rfl ?_
   refine jk 5 (.d (.k4 (.k4 (.k (.i 14 (vi y20.1) (.i 15 (vb y20.2.1) .n)))))) ?_
   refine sk (.k4 (.k4 (.k2 (.i 72 (vb y20.2.1) .n)))) ?_
   refine tc h (fun c21 h => ?_) (fun c21 h => ?_)
   ·refine q6 ?_
    refine rk 4 (.k4 (.k3 (.i 73 (.own 7 0 ((v18 ++ ([(ix a1 v17).From, (ix a1 v17).To, ((ix a1 v17).To) + a0.Change] : List Int)).length)) (.i 75 (vi ((ix a1 v17).To)) (.i 76 (vi y20.1) .n))))) ?_
    refine cK h fun c22 h => ?_
    refine jo 77 (.bin .add false 75 76) (r_add rfl rfl c22) ?_
    refine rko 1 (.d (.k4 (.k4 (.i 78 (.own 8 0 1) .n)))) [some (.row 6 [.agg [eS 1 vt a0.Places, eS 1 vt a0.Technicians, eS 4 eRoad a0.Roads, eS 3 eGrand a0.Grands, vi a0.Change, vi a0.Lasts]]), some (.row 7 [.agg [vi a2.Kind, vi a2.From, vi a2.To, vt a2.Grand, vt a2.Place, vt a2.Who, vi a2.Deposit]]), some (.mp (mpE vi (eM eArr2_Str vi) y20.2.2)), some (.row 7 [.agg [eS 1 vt a0.Places, eS 1 vt a0.Technicians, eS 4 eRoad a0.Roads, eS 3 eGrand a0.Grands, vi a0.Change, vi a0.Lasts, .map 2]]), none, some (.row 7 [.agg [vi ((ix a1 v17).Kind), vi ((ix a1 v17).From), vi ((ix a1 v17).To), vt ((ix a1 v17).Grand), vt ((ix a1 v17).Place), vt ((ix a1 v17).Who), vi ((ix a1 v17).Deposit)]]), some (.row 1 [vi ((ix a1 v17).From), vi ((ix a1 v17).To), vi (((ix a1 v17).To) + a0.Change)]), some (.row 1 (List.map vi (v18 ++ ([(ix a1 v17).From, (ix a1 v17).To, ((ix a1 v17).To) + a0.Change] : List Int)))), some (.row 1 [vi (((ix a1 v17).To) + y20.1)])] ?_
    refine cK h fun c23 h => ?_
    refine jx 79 (.app 1 8 73 78) _ (ok_app_own (l := (v18 ++ ([(ix a1 v17).From, (ix a1 v17).To, ((ix a1 v17).To) + a0.Change] : List Int))) (l2 := ([((ix a1 v17).To) + y20.1] : List Int)) (e := vi) (u := .own 8 0 1) rfl rfl rfl rfl rfl c23) rfl rfl ?_
    refine jk 1 (.d (.k4 (.k3 (.i 11 (.own 9 0 (((v18 ++ ([(ix a1 v17).From, (ix a1 v17).To, ((ix a1 v17).To) + a0.Change] : List Int)) ++ ([((ix a1 v17).To) + y20.1] : List Int)).length)) .n)))) ?_
    exact Vs.intro (sc [0, 1, 2, 3, 9] (by decide) (by kernel_rfl) (.cons rfl (.cons rfl (obRen_mp vi_frz (eM_frz eArr2_Str vi) rfl (.cons rfl (obRen_row vi_frz rfl .nil))))) rfl rfl) ⟨(((v18 ++ ([(ix a1 v17).From, (ix a1 v17).To, ((ix a1 v17).To) + a0.Change] : List Int)) ++ ([((ix a1 v17).To) + y20.1] : List Int)), y20.2.2), rfl, h⟩
   refine q2 ?_
   exact Vs.intro (sc [0, 1, 2, 3, 7] (by decide) (by kernel_rfl) (.cons rfl (.cons rfl (obRen_mp vi_frz (eM_frz eArr2_Str vi) rfl (.cons rfl (obRen_row vi_frz rfl .nil))))) rfl rfl) ⟨((v18 ++ ([(ix a1 v17).From, (ix a1 v17).To, ((ix a1 v17).To) + a0.Change] : List Int)), y20.2.2), rfl, h⟩
  refine q5 ?_
  exact Vs.intro (sc [1, 2, 3, 4] (by decide) (by kernel_rfl) (.cons rfl (obRen_mp vi_frz (eM_frz eArr2_Str vi) rfl (.cons rfl (obRen_row vi_frz rfl .nil)))) rfl rfl) ⟨(v18, v19), rfl, h⟩
 intro k1 k5 h
 refine q6 ?_
 refine rk 2 (.k3 (.i 23 (.agg [eS 1 vt a0.Places, eS 1 vt a0.Technicians, eS 4 eRoad a0.Roads, eS 3 eGrand a0.Grands, vi a0.Change, vi a0.Lasts]) (.i 24 (eS 7 eItem a1) .n))) ?_
 refine bK h fun y1 hy1 h => ?_
 rcases y1 with y1 | y1
 ·dsimp only at h
  refine jc 25 [23, 24] (diary_read_ok n a0 a1 (Sum.inl y1) hy1) ?_
  refine jk 5 (.d (.k3 (.i 8 (.p (.pointer none)) (.i 9 (vi y1) .n)))) ?_
  exact Vs.intro Sees.refl (.inl ⟨y1, rfl, h⟩)
 dsimp only at h
 refine jco (.tup [.ptr 3 0 0, vi y1.1]) 25 [23, 24] (diary_read_ok n a0 a1 (Sum.inr y1) hy1) [] rfl ObsRen.nil (.same (mp_ren vi_frz (eM_frz eArr2_Str vi) _ _) (.cons rfl .nil)) rfl ?_
 refine jk 5 (.d (.k3 (.i 8 (.ptr 3 0 0) (.i 9 (vi y1.1) .n)))) ?_
 exact Vs.intro Sees.refl (.inr ⟨(y1.1, y1.2), rfl, h⟩)
theorem diary_CheckWindows_ok (n : Nat) (a0 : List Window) (r : Int) (h : diary_CheckWindows n a0 = some r) : FnL Try.prog 39 [eS 2 eWindow a0] [] (vi r) [] := by
 dsimp only [diary_CheckWindows] at h
 refine fo [2] Try.call39 Try.func39 rfl ?_
 refine sk .a ?_
 refine q1 ?_
 refine sj ?_
 refine rk 1 (.k (.i 5 (eS 2 eWindow a0) .n)) ?_
 refine jo 6 (.len 0 5) (ok_len_m rfl) ?_
 refine jo 7 (.bin .gtr false 6 (ki 60)) (n_gtr (i := a0.length) (j := 60) rfl rfl) ?_
 refine jf (.d2 (.k (.i 7 (vb (decide (60 < a0.length))) .n))) ?_
 refine tc h (fun c1 h => ?_) (fun c1 h => ?_)
 ·refine sk (.i 2 (vi 8) .n) ?_
  refine q3 ?_
  have h := si h
  subst h
  exact DoneS.ret Sees.refl rfl rfl
 refine q2 ?_
 refine TriE.seqK h (fun (_ : Unit) => St.mk [] []) ?_ ?_
 ·rintro ⟨⟩ h
  refine sk (.i 2 (vi 0) .n) ?_
  refine q3 ?_
  have h := si h
  subst h
  exact DoneS.ret Sees.refl rfl rfl
 intro k1 h
 refine sj ?_
 refine rk 1 (.i 8 (eS 2 eWindow a0) .n) ?_
 refine jo 9 (.len 0 8) (ok_len_m rfl) ?_
 refine jk 1 (.d (.k (.i 9 (vi (a0.length : Int)) (.i 10 (vi 0) .n)))) ?_
 refine q4 ?_
 refine ts (.k2 (.i 10 (vi 0) .n)) ?_
 refine TriE.loopN h (fun (v3 : Nat) => St.mk [(8, eS 2 eWindow a0), (9, vi (a0.length : Int)), (10, vi v3)] []) rfl ?_
 clear h
 rintro back v3 h
 dsimp only [diary_CheckWindows_L1] at h
 refine sj ?_
 refine jo 11 (.bin .lss false 10 9) (n_lss (i := v3) (j := a0.length) rfl rfl) ?_
 refine jf (.d (.k3 (.i 11 (vb (decide (v3 < a0.length))) .n))) ?_
 refine q1 ?_
 refine tc h (fun c2 h => ?_) (fun c2 h => ?_)
 ·refine q2 ?_
  refine q7 ?_
  refine sj ?_
  refine jo 12 (.iaddr 2 8 10) (ok_iaddr_m (j := v3) rfl rfl rfl c2) ?_
  refine jo 13 (.load true 2 12) (ok_load_fm (v := .agg [vi ((ix a0 v3).From), vi ((ix a0 v3).To)]) rfl c2 rfl) ?_
  refine jko 2 (.d2 (.k3 (.i 4 (.ptr 0 0 0) .n))) [some (.row 2 [.agg [vi ((ix a0 v3).From), vi ((ix a0 v3).To)]])] ?_
  refine q4 ?_
  refine sj ?_
  refine rk 2 (.k4 (.i 16 (vi ((ix a0 v3).From)) .n)) ?_
  refine bK h fun y4 hy4 h => ?_
  refine jc 17 [16, (ki 0), (ki 1000)] (diary_within_ok n ((ix a0 v3).From) 0 1000 y4 hy4) ?_
  refine rk 2 (.d (.k4 (.i 19 (vb (!((decide (0 ≤ ((ix a0 v3).From))) && (decide (((ix a0 v3).From) ≤ 1000))))) .n))) ?_
  refine gj (.ptr 0 0 1) 20 (.faddr 1 4) 19 false rfl ?_
  refine gk (vi ((ix a0 v3).To)) 21 (.load false 1 20) 19 false rfl (fun hg => (.cons hg .nil)) ?_
  refine bK h fun y5 hy5 h => ?_
  refine gc 22 [21, (ki 0), (ki 1000)] 19 false rfl (fun hg => diary_within_ok n ((ix a0 v3).To) 0 1000 y5 (gcall_some hy5 hg)) (fun hg => (.cons rfl (.cons hg (.cons rfl (.cons rfl .nil))))) (fun hg => by kernel_rfl) ?_
  refine gk (vb (!((decide (0 ≤ ((ix a0 v3).To))) && (decide (((ix a0 v3).To) ≤ 1000))))) 23 (.un .not 22) 19 false rfl (fun hg => (.cons hg .nil)) ?_
  refine po 24 19 23 rfl rfl ?_
  refine jk 1 (.d4 (.d (.k4 (.i 14 (vb ((!((decide (0 ≤ ((ix a0 v3).From))) && (decide (((ix a0 v3).From) ≤ 1000)))) || (!((decide (0 ≤ ((ix a0 v3).To))) && (decide (((ix a0 v3).To) ≤ 1000)))))) .n)))) ?_
  refine tc h (fun c3 h => ?_) (fun c3 h => ?_)
  ·refine sk (.i 2 (vi 2) .n) ?_
   refine q3 ?_
   have h := si h
   subst h
   exact DoneS.ret (S' := ⟨[(2, vi 2)], []⟩) (sc [] (by decide) (by kernel_rfl) ObRen.nil rfl rfl) rfl rfl
  refine sk (.k3 (.i 25 (vb (decide (((ix a0 v3).To) ≤ ((ix a0 v3).From)))) .n)) ?_
  refine tc h (fun c4 h => ?_) (fun c4 h => ?_)
  ·refine sk (.i 2 (vi 9) .n) ?_
   refine q3 ?_
   have h := si h
   subst h
   exact DoneS.ret (S' := ⟨[(2, vi 9)], []⟩) (sc [] (by decide) (by kernel_rfl) ObRen.nil rfl rfl) rfl rfl
  refine q2 ?_
  refine q6 ?_
  refine cK h fun c5 h => ?_
  refine jo 31 (.bin .add false 10 (ki 1)) (r_addn (i := v3) (j := 1) rfl rfl c5) ?_
  refine jk 1 (.d (.k2 (.i 10 (vi ((v3 + 1 : Nat) : Int)) .n))) ?_
  exact Vs.intro (sc [] (by decide) (by kernel_rfl) ObRen.nil rfl rfl) ⟨(v3 + 1), rfl, h⟩
 refine q5 ?_
 exact Vs.intro sy ⟨(), rfl, h⟩
theorem math_bits_Mul64_ok (n : Nat) (a0 : Int) (a1 : Int) (r : Unit) (h : math_bits_Mul64 n a0 a1 = some r) : FnL Try.prog 147 [vk .u64 a0, vk .u64 a1] [] (.tup [vk .u64 (IntKind.u64.wrap ((IntKind.u64.wrap ((IntKind.u64.wrap ((Int.fdiv a0 (2 ^ (min 32 64))) * (Int.fdiv a1 (2 ^ (min 32 64))))) + (Int.fdiv (IntKind.u64.wrap ((IntKind.u64.wrap ((Int.fdiv a0 (2 ^ (min 32 64))) * (iAnd .u64 a1 4294967295))) + (Int.fdiv (IntKind.u64.wrap ((iAnd .u64 a0 4294967295) * (iAnd .u64 a1 4294967295))) (2 ^ (min 32 64))))) (2 ^ (min 32 64))))) + (Int.fdiv (IntKind.u64.wrap ((iAnd .u64 (IntKind.u64.wrap ((IntKind.u64.wrap ((Int.fdiv a0 (2 ^ (min 32 64))) * (iAnd .u64 a1 4294967295))) + (Int.fdiv (IntKind.u64.wrap ((iAnd .u64 a0 4294967295) * (iAnd .u64 a1 4294967295))) (2 ^ (min 32 64))))) 4294967295) + (IntKind.u64.wrap ((iAnd .u64 a0 4294967295) * (Int.fdiv a1 (2 ^ (min 32 64))))))) (2 ^ (min 32 64))))), vk .u64 (IntKind.u64.wrap (a0 * a1))]) [] := by
 dsimp only [math_bits_Mul64] at h
 refine fo [4, 5] Try.call147 Try.func147 rfl ?_
 refine sk .a ?_
 refine sk (.k2 (.i 6 (vk .u64 (iAnd .u64 a0 4294967295)) .n)) ?_
 refine sk (.k3 (.i 7 (vk .u64 (Int.fdiv a0 (2 ^ (min 32 64)))) .n)) ?_
 refine sk (.k4 (.i 8 (vk .u64 (iAnd .u64 a1 4294967295)) .n)) ?_
 refine sk (.k4 (.k (.i 9 (vk .u64 (Int.fdiv a1 (2 ^ (min 32 64)))) .n))) ?_
 refine sk (.k4 (.k2 (.i 10 (vk .u64 (IntKind.u64.wrap ((iAnd .u64 a0 4294967295) * (iAnd .u64 a1 4294967295)))) .n))) ?_
 refine sk (.k4 (.d (.k (.i 11 (vk .u64 (IntKind.u64.wrap ((IntKind.u64.wrap ((Int.fdiv a0 (2 ^ (min 32 64))) * (iAnd .u64 a1 4294967295))) + (Int.fdiv (IntKind.u64.wrap ((iAnd .u64 a0 4294967295) * (iAnd .u64 a1 4294967295))) (2 ^ (min 32 64)))))) .n)))) ?_
 refine sk (.k4 (.k2 (.i 12 (vk .u64 (iAnd .u64 (IntKind.u64.wrap ((IntKind.u64.wrap ((Int.fdiv a0 (2 ^ (min 32 64))) * (iAnd .u64 a1 4294967295))) + (Int.fdiv (IntKind.u64.wrap ((iAnd .u64 a0 4294967295) * (iAnd .u64 a1 4294967295))) (2 ^ (min 32 64))))) 4294967295)) .n))) ?_
 refine sk (.k4 (.k (.d (.k (.i 13 (vk .u64 (Int.fdiv (IntKind.u64.wrap ((IntKind.u64.wrap ((Int.fdiv a0 (2 ^ (min 32 64))) * (iAnd .u64 a1 4294967295))) + (Int.fdiv (IntKind.u64.wrap ((iAnd .u64 a0 4294967295) * (iAnd .u64 a1 4294967295))) (2 ^ (min 32 64))))) (2 ^ (min 32 64)))) .n))))) ?_
 refine sk (.k2 (.d (.k2 (.d (.k (.i 12 (vk .u64 (IntKind.u64.wrap ((iAnd .u64 (IntKind.u64.wrap ((IntKind.u64.wrap ((Int.fdiv a0 (2 ^ (min 32 64))) * (iAnd .u64 a1 4294967295))) + (Int.fdiv (IntKind.u64.wrap ((iAnd .u64 a0 4294967295) * (iAnd .u64 a1 4294967295))) (2 ^ (min 32 64))))) 4294967295) + (IntKind.u64.wrap ((iAnd .u64 a0 4294967295) * (Int.fdiv a1 (2 ^ (min 32 64)))))))) .n)))))) ?_
 refine sk (.k2 (.i 4 (vk .u64 (IntKind.u64.wrap ((IntKind.u64.wrap ((IntKind.u64.wrap ((Int.fdiv a0 (2 ^ (min 32 64))) * (Int.fdiv a1 (2 ^ (min 32 64))))) + (Int.fdiv (IntKind.u64.wrap ((IntKind.u64.wrap ((Int.fdiv a0 (2 ^ (min 32 64))) * (iAnd .u64 a1 4294967295))) + (Int.fdiv (IntKind.u64.wrap ((iAnd .u64 a0 4294967295) * (iAnd .u64 a1 4294967295))) (2 ^ (min 32 64))))) (2 ^ (min 32 64))))) + (Int.fdiv (IntKind.u64.wrap ((iAnd .u64 (IntKind.u64.wrap ((IntKind.u64.wrap ((Int.fdiv a0 (2 ^ (min 32 64))) * (iAnd .u64 a1 4294967295))) + (Int.fdiv (IntKind.u64.wrap ((iAnd .u64 a0 4294967295) * (iAnd .u64 a1 4294967295))) (2 ^ (min 32 64))))) 4294967295) + (IntKind.u64.wrap ((iAnd .u64 a0 4294967295) * (Int.fdiv a1 (2 ^ (min 32 64))))))) (2 ^ (min 32 64)))))) .n)) ?_
 refine sk (.d2 (.k (.i 5 (vk .u64 (IntKind.u64.wrap (a0 * a1))) .n))) ?_
 refine q3 ?_
 have h := si h
 subst h
 exact DoneS.ret Sees.refl rfl rfl
theorem math_bits_Mul_ok (n : Nat) (a0 : Int) (a1 : Int) (r : Unit) (h : math_bits_Mul n a0 a1 = some r) : FnL Try.prog 137 [vk .u64 a0, vk .u64 a1] [] (.tup [vk .u64 (IntKind.u64.wrap ((IntKind.u64.wrap ((IntKind.u64.wrap ((Int.fdiv a0 (2 ^ (min 32 64))) * (Int.fdiv a1 (2 ^ (min 32 64))))) + (Int.fdiv (IntKind.u64.wrap ((IntKind.u64.wrap ((Int.fdiv a0 (2 ^ (min 32 64))) * (iAnd .u64 a1 4294967295))) + (Int.fdiv (IntKind.u64.wrap ((iAnd .u64 a0 4294967295) * (iAnd .u64 a1 4294967295))) (2 ^ (min 32 64))))) (2 ^ (min 32 64))))) + (Int.fdiv (IntKind.u64.wrap ((iAnd .u64 (IntKind.u64.wrap ((IntKind.u64.wrap ((Int.fdiv a0 (2 ^ (min 32 64))) * (iAnd .u64 a1 4294967295))) + (Int.fdiv (IntKind.u64.wrap ((iAnd .u64 a0 4294967295) * (iAnd .u64 a1 4294967295))) (2 ^ (min 32 64))))) 4294967295) + (IntKind.u64.wrap ((iAnd .u64 a0 4294967295) * (Int.fdiv a1 (2 ^ (min 32 64))))))) (2 ^ (min 32 64))))), vk .u64 (IntKind.u64.wrap (a0 * a1))]) [] := by
 dsimp only [math_bits_Mul] at h
 refine fo [4, 5] Try.call137 Try.func137 rfl ?_
 refine sk .a ?_
 refine q1 ?_
 refine TriE.cond (b := false) rfl (fun c1 => ?_) (fun c1 => ?_)
 ·cases c1
 refine q2 ?_
 refine sj ?_
 refine rk 2 (.i 23 (vk .u64 a0) (.i 24 (vk .u64 a1) .n)) ?_
 refine bK h fun y1 hy1 h => ?_
 refine jc 25 [23, 24] (math_bits_Mul64_ok n a0 a1 y1 hy1) ?_
 refine jk 5 (.i 8 (vk .u64 (IntKind.u64.wrap ((IntKind.u64.wrap ((IntKind.u64.wrap ((Int.fdiv a0 (2 ^ (min 32 64))) * (Int.fdiv a1 (2 ^ (min 32 64))))) + (Int.fdiv (IntKind.u64.wrap ((IntKind.u64.wrap ((Int.fdiv a0 (2 ^ (min 32 64))) * (iAnd .u64 a1 4294967295))) + (Int.fdiv (IntKind.u64.wrap ((iAnd .u64 a0 4294967295) * (iAnd .u64 a1 4294967295))) (2 ^ (min 32 64))))) (2 ^ (min 32 64))))) + (Int.fdiv (IntKind.u64.wrap ((iAnd .u64 (IntKind.u64.wrap ((IntKind.u64.wrap ((Int.fdiv a0 (2 ^ (min 32 64))) * (iAnd .u64 a1 4294967295))) + (Int.fdiv (IntKind.u64.wrap ((iAnd .u64 a0 4294967295) * (iAnd .u64 a1 4294967295))) (2 ^ (min 32 64))))) 4294967295) + (IntKind.u64.wrap ((iAnd .u64 a0 4294967295) * (Int.fdiv a1 (2 ^ (min 32 64))))))) (2 ^ (min 32 64)))))) (.i 9 (vk .u64 (IntKind.u64.wrap (a0 * a1))) .n)) ?_
 refine sk (.i 4 (vk .u64 (IntKind.u64.wrap ((IntKind.u64.wrap ((IntKind.u64.wrap ((Int.fdiv a0 (2 ^ (min 32 64))) * (Int.fdiv a1 (2 ^ (min 32 64))))) + (Int.fdiv (IntKind.u64.wrap ((IntKind.u64.wrap ((Int.fdiv a0 (2 ^ (min 32 64))) * (iAnd .u64 a1 4294967295))) + (Int.fdiv (IntKind.u64.wrap ((iAnd .u64 a0 4294967295) * (iAnd .u64 a1 4294967295))) (2 ^ (min 32 64))))) (2 ^ (min 32 64))))) + (Int.fdiv (IntKind.u64.wrap ((iAnd .u64 (IntKind.u64.wrap ((IntKind.u64.wrap ((Int.fdiv a0 (2 ^ (min 32 64))) * (iAnd .u64 a1 4294967295))) + (Int.fdiv (IntKind.u64.wrap ((iAnd .u64 a0 4294967295) * (iAnd .u64 a1 4294967295))) (2 ^ (min 32 64))))) 4294967295) + (IntKind.u64.wrap ((iAnd .u64 a0 4294967295) * (Int.fdiv a1 (2 ^ (min 32 64))))))) (2 ^ (min 32 64)))))) (.i 5 (vk .u64 (IntKind.u64.wrap (a0 * a1))) .n)) ?_
 refine q3 ?_
 have h := si h
 subst h
 exact DoneS.ret Sees.refl rfl rfl
set_option maxHeartbeats 1000000 in
theorem slices_Repeat_int_ok (n : Nat) (a0 : List Int) (a1 : Int) (r : (List Int)) (h : slices_Repeat_int n a0 a1 = some r) : FnL Try.prog 116 [.own 0 0 a0.length, vi a1] [some (.row 1 (List.map vi a0))] (.own 1 0 ((List.replicate ((IntKind.u64.wrap ((IntKind.u64.wrap (a0.length : Int)) * (IntKind.u64.wrap a1))).toNat) (0 : Int)).length)) [some (.row 1 (List.map vi a0)), some (.row 1 (List.map vi r))] := by
 dsimp only [slices_Repeat_int] at h
 refine fob [4] Try.call116 Try.func116 rfl (.cons rfl .nil) ?_
 refine sk .a ?_
 refine q1 ?_
 refine sk (.k2 (.i 10 (vb (decide (a1 < (0 : Int)))) .n)) ?_
 refine tc h (fun c1 h => ?_) (fun c1 h => ?_)
 ·refine q6 ?_
  cases h
 refine q2 ?_
 refine sj ?_
 refine rk 5 (.k (.i 15 (vk .u64 (IntKind.u64.wrap (a0.length : Int))) (.i 17 (vk .u64 (IntKind.u64.wrap a1)) .n))) ?_
 refine bK h fun y1 hy1 h => ?_
 refine jc 18 [15, 17] (math_bits_Mul_ok n (IntKind.u64.wrap (a0.length : Int)) (IntKind.u64.wrap a1) y1 hy1) ?_
 refine jk 5 (.d (.k (.i 5 (vk .u64 (IntKind.u64.wrap ((IntKind.u64.wrap ((IntKind.u64.wrap ((Int.fdiv (IntKind.u64.wrap (a0.length : Int)) (2 ^ (min 32 64))) * (Int.fdiv (IntKind.u64.wrap a1) (2 ^ (min 32 64))))) + (Int.fdiv (IntKind.u64.wrap ((IntKind.u64.wrap ((Int.fdiv (IntKind.u64.wrap (a0.length : Int)) (2 ^ (min 32 64))) * (iAnd .u64 (IntKind.u64.wrap a1) 4294967295))) + (Int.fdiv (IntKind.u64.wrap ((iAnd .u64 (IntKind.u64.wrap (a0.length : Int)) 4294967295) * (iAnd .u64 (IntKind.u64.wrap a1) 4294967295))) (2 ^ (min 32 64))))) (2 ^ (min 32 64))))) + (Int.fdiv (IntKind.u64.wrap ((iAnd .u64 (IntKind.u64.wrap ((IntKind.u64.wrap ((Int.fdiv (IntKind.u64.wrap (a0.length : Int)) (2 ^ (min 32 64))) * (iAnd .u64 (IntKind.u64.wrap a1) 4294967295))) + (Int.fdiv (IntKind.u64.wrap ((iAnd .u64 (IntKind.u64.wrap (a0.length : Int)) 4294967295) * (iAnd .u64 (IntKind.u64.wrap a1) 4294967295))) (2 ^ (min 32 64))))) 4294967295) + (IntKind.u64.wrap ((iAnd .u64 (IntKind.u64.wrap (a0.length : Int)) 4294967295) * (Int.fdiv (IntKind.u64.wrap a1) (2 ^ (min 32 64))))))) (2 ^ (min 32 64)))))) (.i 6 (vk .u64 (IntKind.u64.wrap ((IntKind.u64.wrap (a0.length : Int)) * (IntKind.u64.wrap a1)))) .n)))) ?_
 refine q1 ?_
 refine sj ?_
 refine rk 3 (.k (.d (.k (.i 23 (vb (decide ((0 : Int) < (IntKind.u64.wrap ((IntKind.u64.wrap ((IntKind.u64.wrap ((Int.fdiv (IntKind.u64.wrap (a0.length : Int)) (2 ^ (min 32 64))) * (Int.fdiv (IntKind.u64.wrap a1) (2 ^ (min 32 64))))) + (Int.fdiv (IntKind.u64.wrap ((IntKind.u64.wrap ((Int.fdiv (IntKind.u64.wrap (a0.length : Int)) (2 ^ (min 32 64))) * (iAnd .u64 (IntKind.u64.wrap a1) 4294967295))) + (Int.fdiv (IntKind.u64.wrap ((iAnd .u64 (IntKind.u64.wrap (a0.length : Int)) 4294967295) * (iAnd .u64 (IntKind.u64.wrap a1) 4294967295))) (2 ^ (min 32 64))))) (2 ^ (min 32 64))))) + (Int.fdiv (IntKind.u64.wrap ((iAnd .u64 (IntKind.u64.wrap ((IntKind.u64.wrap ((Int.fdiv (IntKind.u64.wrap (a0.length : Int)) (2 ^ (min 32 64))) * (iAnd .u64 (IntKind.u64.wrap a1) 4294967295))) + (Int.fdiv (IntKind.u64.wrap ((iAnd .u64 (IntKind.u64.wrap (a0.length : Int)) 4294967295) * (iAnd .u64 (IntKind.u64.wrap a1) 4294967295))) (2 ^ (min 32 64))))) 4294967295) + (IntKind.u64.wrap ((iAnd .u64 (IntKind.u64.wrap (a0.length : Int)) 4294967295) * (Int.fdiv (IntKind.u64.wrap a1) (2 ^ (min 32 64))))))) (2 ^ (min 32 64)))))))) .n)))) ?_
 refine gj (vk .u64 (IntKind.u64.wrap ((IntKind.u64.wrap (a0.length : Int)) * (IntKind.u64.wrap a1)))) 24 (.mov 6) 23 false rfl ?_
 refine gk (vb (decide ((9223372036854775807 : Int) < (IntKind.u64.wrap ((IntKind.u64.wrap (a0.length : Int)) * (IntKind.u64.wrap a1)))))) 25 (.bin .gtr false 24 (.c (.p (.int .u64 9223372036854775807)))) 23 false rfl (fun hg => (.cons hg (.cons rfl .nil))) ?_
 refine po 26 23 25 rfl rfl ?_
 refine jf (.d3 (.k2 (.i 26 (vb ((decide ((0 : Int) < (IntKind.u64.wrap ((IntKind.u64.wrap ((IntKind.u64.wrap ((Int.fdiv (IntKind.u64.wrap (a0.length : Int)) (2 ^ (min 32 64))) * (Int.fdiv (IntKind.u64.wrap a1) (2 ^ (min 32 64))))) + (Int.fdiv (IntKind.u64.wrap ((IntKind.u64.wrap ((Int.fdiv (IntKind.u64.wrap (a0.length : Int)) (2 ^ (min 32 64))) * (iAnd .u64 (IntKind.u64.wrap a1) 4294967295))) + (Int.fdiv (IntKind.u64.wrap ((iAnd .u64 (IntKind.u64.wrap (a0.length : Int)) 4294967295) * (iAnd .u64 (IntKind.u64.wrap a1) 4294967295))) (2 ^ (min 32 64))))) (2 ^ (min 32 64))))) + (Int.fdiv (IntKind.u64.wrap ((iAnd .u64 (IntKind.u64.wrap ((IntKind.u64.wrap ((Int.fdiv (IntKind.u64.wrap (a0.length : Int)) (2 ^ (min 32 64))) * (iAnd .u64 (IntKind.u64.wrap a1) 4294967295))) + (Int.fdiv (IntKind.u64.wrap ((iAnd .u64 (IntKind.u64.wrap (a0.length : Int)) 4294967295) * (iAnd .u64 (IntKind.u64.wrap a1) 4294967295))) (2 ^ (min 32 64))))) 4294967295) + (IntKind.u64.wrap ((iAnd .u64 (IntKind.u64.wrap (a0.length : Int)) 4294967295) * (Int.fdiv (IntKind.u64.wrap a1) (2 ^ (min 32 64))))))) (2 ^ (min 32 64))))))) || (decide ((9223372036854775807 : Int) < (IntKind.u64.wrap ((IntKind.u64.wrap (a0.length : Int)) * (IntKind.u64.wrap a1))))))) .n))) ?_
 refine tc h (fun c2 h => ?_) (fun c2 h => ?_)
 ·refine q6 ?_
  cases h
 refine q2 ?_
 refine sj ?_
 refine rk 1 (.k (.i 28 (vk .u64 (IntKind.u64.wrap ((IntKind.u64.wrap (a0.length : Int)) * (IntKind.u64.wrap a1)))) .n)) ?_
 refine cK h fun c3 h => ?_
 refine jo 29 (.conv .i64 28) (ok_conv64 rfl c3) ?_
 refine cK h fun c4 h => ?_
 refine cK h fun c5 h => ?_
 refine jx 30 (.mkslice 1 8 (.p (.int .i64 0)) 29 29) _ (ok_mkslice_n (e := vi) (v0 := (0 : Int)) (j := (IntKind.u64.wrap ((IntKind.u64.wrap (a0.length : Int)) * (IntKind.u64.wrap a1))).toNat) rfl rfl (nn_to c4) (nn_to c4) rfl rfl c5) rfl rfl ?_
 refine jk 1 (.d2 (.k (.i 7 (.own 1 0 ((List.replicate ((IntKind.u64.wrap ((IntKind.u64.wrap (a0.length : Int)) * (IntKind.u64.wrap a1))).toNat) (0 : Int)).length)) .n))) ?_
 refine sj ?_
 refine rk 2 (.d (.k (.i 31 (.own 1 0 ((List.replicate ((IntKind.u64.wrap ((IntKind.u64.wrap (a0.length : Int)) * (IntKind.u64.wrap a1))).toNat) (0 : Int)).length)) (.i 32 (.own 0 0 a0.length) .n)))) ?_
 refine cK h fun c6 h => ?_
 refine cK h fun c7 h => ?_
 refine RegJ.cpyM (d := some 33) (k := 1) (e := vi) (l := (List.replicate ((IntKind.u64.wrap ((IntKind.u64.wrap (a0.length : Int)) * (IntKind.u64.wrap a1))).toNat) (0 : Int))) (l2 := (List.take a0.length (List.drop 0 a0))) (nn := 1) (off := 0) (len := (List.replicate ((IntKind.u64.wrap ((IntKind.u64.wrap (a0.length : Int)) * (IntKind.u64.wrap a1))).toNat) (0 : Int)).length) (rd := [0]) (x := .t 31) (y := .t 32) (by kernel_rfl) rfl rfl rfl rfl (els_ow2 (e := vi) (l := a0) rfl rfl c7) (fun _ h => nomatch h) c6 ?_
 refine jq 1 [(7, .own 1 0 ((List.replicate ((IntKind.u64.wrap ((IntKind.u64.wrap (a0.length : Int)) * (IntKind.u64.wrap a1))).toNat) (0 : Int)).length)), (8, vi ((Nat.min (List.take a0.length (List.drop 0 a0)).length ((List.replicate ((IntKind.u64.wrap ((IntKind.u64.wrap (a0.length : Int)) * (IntKind.u64.wrap a1))).toNat) (0 : Int)).length) : Nat) : Int))] [some (.row 1 (List.map vi a0)), some (.row 1 (List.map vi (cpyP (List.replicate ((IntKind.u64.wrap ((IntKind.u64.wrap (a0.length : Int)) * (IntKind.u64.wrap a1))).toNat) (0 : Int)) 0 (List.take (Nat.min (List.take a0.length (List.drop 0 a0)).length ((List.replicate ((IntKind.u64.wrap ((IntKind.u64.wrap (a0.length : Int)) * (IntKind.u64.wrap a1))).toNat) (0 : Int)).length)) (List.take a0.length (List.drop 0 a0))))))] ?_
 refine TriE.seqK h (fun (v4 : (List Int)) => St.mk [(7, .own 1 0 ((List.replicate ((IntKind.u64.wrap ((IntKind.u64.wrap (a0.length : Int)) * (IntKind.u64.wrap a1))).toNat) (0 : Int)).length))] [some (.row 1 (List.map vi a0)), some (.row 1 (List.map vi v4))]) ?_ ?_
 ·rintro v4 h
  refine sk (.i 4 (.own 1 0 ((List.replicate ((IntKind.u64.wrap ((IntKind.u64.wrap (a0.length : Int)) * (IntKind.u64.wrap a1))).toNat) (0 : Int)).length)) .n) ?_
  refine q3 ?_
  have h := si h
  subst h
  exact DoneS.ret Sees.refl rfl rfl
 intro k1 h
 refine q4 ?_
 refine ts (.k (.i 8 (vi (((Nat.min (List.take a0.length (List.drop 0 a0)).length ((List.replicate ((IntKind.u64.wrap ((IntKind.u64.wrap (a0.length : Int)) * (IntKind.u64.wrap a1))).toNat) (0 : Int)).length)) : Nat) : Int)) .n)) ?_
 refine TriE.loopN h (fun (t : Nat × (List Int)) => match t with | (v2, v3) => St.mk [(7, .own 1 0 ((List.replicate ((IntKind.u64.wrap ((IntKind.u64.wrap (a0.length : Int)) * (IntKind.u64.wrap a1))).toNat) (0 : Int)).length)), (8, vi v2)] [some (.row 1 (List.map vi a0)), some (.row 1 (List.map vi v3))]) rfl ?_
 clear h
 rintro back ⟨v2, v3⟩ h
 dsimp only [slices_Repeat_int_L1] at h
 refine q1 ?_
 refine sj ?_
 refine rk 3 (.k2 (.i 34 (vi v2) (.i 36 (vi (((List.replicate ((IntKind.u64.wrap ((IntKind.u64.wrap (a0.length : Int)) * (IntKind.u64.wrap a1))).toNat) (0 : Int)).length : Nat) : Int)) .n))) ?_
 refine jo 37 (.bin .lss false 34 36) (n_lss (i := v2) (j := (List.replicate ((IntKind.u64.wrap ((IntKind.u64.wrap (a0.length : Int)) * (IntKind.u64.wrap a1))).toNat) (0 : Int)).length) rfl rfl) ?_
 refine jf (.d (.k2 (.i 37 (vb (decide (v2 < ((List.replicate ((IntKind.u64.wrap ((IntKind.u64.wrap (a0.length : Int)) * (IntKind.u64.wrap a1))).toNat) (0 : Int)).length)))) .n))) ?_
 refine tc h (fun c8 h => ?_) (fun c8 h => ?_)
 ·refine q2 ?_
  refine q4 ?_
  refine ts (.k2 .n) ?_
  refine TriE.draw (by kernel_rfl) ?_
  refine dk 3 (.i 40 (vi v2) (.i 39 (.own 1 0 ((List.replicate ((IntKind.u64.wrap ((IntKind.u64.wrap (a0.length : Int)) * (IntKind.u64.wrap a1))).toNat) (0 : Int)).length)) (.i 38 (vi v2) .a))) ?_
  refine dp 41 (.slc 1 39 (some 40) none none) (ok_slco_lo0 (i := v2) rfl rfl rfl rfl c8) ?_
  refine dk 2 (.i 43 (vi v2) (.i 42 (.own 1 0 ((List.replicate ((IntKind.u64.wrap ((IntKind.u64.wrap (a0.length : Int)) * (IntKind.u64.wrap a1))).toNat) (0 : Int)).length)) .a)) ?_
  refine cK h fun c9 h => ?_
  refine dp 44 (.slc 1 42 none (some 43) none) (ok_slco_hi (j := v2) rfl rfl rfl rfl c9) ?_
  refine cK h fun c10 h => ?_
  refine cK h fun c11 h => ?_
  refine RegD.op (OpD.cpyM (k := 1) (e := vi) (l := v3) (l2 := (List.take v2 (List.drop 0 v3))) (nn := 1) (off := v2) (len := ((List.replicate ((IntKind.u64.wrap ((IntKind.u64.wrap (a0.length : Int)) * (IntKind.u64.wrap a1))).toNat) (0 : Int)).length) - v2) (rd := [1]) (x := .t 41) (y := .t 44) (by kernel_rfl) (cy (I0 45 (.copy 1 41 44))) rfl rfl rfl rfl rfl (els_ow2 (e := vi) (l := v3) rfl rfl c11) (fun _ h => nomatch h) c10) ?_
  refine cK h fun c12 h => ?_
  refine dp 46 (.bin .add false 38 45) (r_addn (i := v2) (j := Nat.min (List.take v2 (List.drop 0 v3)).length (((List.replicate ((IntKind.u64.wrap ((IntKind.u64.wrap (a0.length : Int)) * (IntKind.u64.wrap a1))).toNat) (0 : Int)).length) - v2)) rfl rfl c12) ?_
  refine RegD.run 1 [(8, vi ((v2 + (Nat.min (List.take v2 (List.drop 0 v3)).length (((List.replicate ((IntKind.u64.wrap ((IntKind.u64.wrap (a0.length : Int)) * (IntKind.u64.wrap a1))).toNat) (0 : Int)).length) - v2)) : Nat) : Int)), (46, vi ((v2 + (Nat.min (List.take v2 (List.drop 0 v3)).length (((List.replicate ((IntKind.u64.wrap ((IntKind.u64.wrap (a0.length : Int)) * (IntKind.u64.wrap a1))).toNat) (0 : Int)).length) - v2)) : Nat) : Int)), (45, vi ((Nat.min (List.take v2 (List.drop 0 v3)).length (((List.replicate ((IntKind.u64.wrap ((IntKind.u64.wrap (a0.length : Int)) * (IntKind.u64.wrap a1))).toNat) (0 : Int)).length) - v2) : Nat) : Int)), (44, .own 1 0 v2), (43, vi v2), (42, .own 1 0 ((List.replicate ((IntKind.u64.wrap ((IntKind.u64.wrap (a0.length : Int)) * (IntKind.u64.wrap a1))).toNat) (0 : Int)).length)), (41, .own 1 v2 (((List.replicate ((IntKind.u64.wrap ((IntKind.u64.wrap (a0.length : Int)) * (IntKind.u64.wrap a1))).toNat) (0 : Int)).length) - v2)), (40, vi v2), (39, .own 1 0 ((List.replicate ((IntKind.u64.wrap ((IntKind.u64.wrap (a0.length : Int)) * (IntKind.u64.wrap a1))).toNat) (0 : Int)).length)), (38, vi v2), (7, .own 1 0 ((List.replicate ((IntKind.u64.wrap ((IntKind.u64.wrap (a0.length : Int)) * (IntKind.u64.wrap a1))).toNat) (0 : Int)).length)), (8, vi v2)] [some (.row 1 (List.map vi a0)), some (.row 1 (List.map vi (cpyP v3 v2 (List.take (Nat.min (List.take v2 (List.drop 0 v3)).length (((List.replicate ((IntKind.u64.wrap ((IntKind.u64.wrap (a0.length : Int)) * (IntKind.u64.wrap a1))).toNat) (0 : Int)).length) - v2)) (List.take v2 (List.drop 0 v3)))))), none, none, none, none, none, none, none, none, none, none] (by kernel_rfl) ?_
  refine dfi (.d4 (.d4 (.d2 (.k (.i 8 (vi ((v2 + (Nat.min (List.take v2 (List.drop 0 v3)).length (((List.replicate ((IntKind.u64.wrap ((IntKind.u64.wrap (a0.length : Int)) * (IntKind.u64.wrap a1))).toNat) (0 : Int)).length) - v2)) : Nat) : Int)) .n))))) [0, 1] (obRen_row vi_frz rfl (obRen_row vi_frz rfl .nil)) ?_
  exact Vs.intro sy ⟨(v2 + (Nat.min (List.take v2 (List.drop 0 v3)).length (((List.replicate ((IntKind.u64.wrap ((IntKind.u64.wrap (a0.length : Int)) * (IntKind.u64.wrap a1))).toNat) (0 : Int)).length) - v2)), (cpyP v3 v2 (List.take (Nat.min (List.take v2 (List.drop 0 v3)).length (((List.replicate ((IntKind.u64.wrap ((IntKind.u64.wrap (a0.length : Int)) * (IntKind.u64.wrap a1))).toNat) (0 : Int)).length) - v2)) (List.take v2 (List.drop 0 v3))))), rfl, h⟩
 refine q5 ?_
 exact Vs.intro sy ⟨v3, rfl, h⟩
set_option maxHeartbeats 1000000 in
theorem diary_schedule_ok (n : Nat) (a0 : List Window) (r : (List Int)) (h : diary_schedule n a0 = some r) : FnL Try.prog 90 [eS 2 eWindow a0] [] (.own 0 0 ((List.replicate ((IntKind.u64.wrap ((IntKind.u64.wrap ((([(-1)] : List Int).length : Nat) : Int)) * (IntKind.u64.wrap ((a0.length : Nat) : Int)))).toNat) (0 : Int)).length)) [some (.row 1 (List.map vi r))] := by
  dsimp only [diary_schedule] at h
  refine FnL.ofS (ts := [2]) Try.call90 Try.func90 rfl rfl (Nat.le_of_ble_eq_true rfl) (Nat.le_of_ble_eq_true rfl) (fun j h => absurd h (Nat.not_lt_zero j)) ?_
  show TriE _ _ _ _ _ (St.mk [(0, eS 2 eWindow a0)] []) _
  refine TriE.seq ?_
  refine TriE.run [(0, eS 2 eWindow a0)] [] (by kernel_rfl) ?_
  refine TriE.seq ?_
  refine TriE.regJ ?_
  refine RegJ.run 2 [(0, eS 2 eWindow a0), (8, .own 0 0 1), (9, eS 2 eWindow a0)] [some (.row 1 [vi (-1)])] (by kernel_rfl) ?_
  refine jv (vi ((a0.length : Nat) : Int)) (cz (I0 10 (.len 0 (.t 9))) (by kernel_rfl)) (ok_len_m rfl) rfl ?_
  refine bK h fun y1 hy1 h => ?_
  refine RegJ.op (Op1.call (y' := .own 1 0 ((List.replicate ((IntKind.u64.wrap ((IntKind.u64.wrap ((([(-1)] : List Int).length : Nat) : Int)) * (IntKind.u64.wrap ((a0.length : Nat) : Int)))).toNat) (0 : Int)).length)) (obx := [some (.row 1 [vi (-1)])]) (oby := [some (.row 1 (List.map vi ([(-1)] : List Int))), some (.row 1 (List.map vi y1))]) (ob2 := [some (.row 1 (List.map vi ([(-1)] : List Int))), some (.row 1 (List.map vi y1))]) _ _ (cz (I0 11 (.call 116 [(.t 8), (.t 10)])) (by kernel_rfl)) rfl (slices_Repeat_int_ok n ([(-1)] : List Int) ((a0.length : Nat) : Int) y1 hy1) [0] (by kernel_rfl) (.cons rfl (.cons rfl (.cons rfl .nil))) (by kernel_rfl) (by kernel_rfl) (.same (row_ren vi_frz _ _ _) .nil) (by kernel_rfl) (.same (row_ren vi_frz _ _ _) (.same (row_ren vi_frz _ _ _) .nil)) (by kernel_rfl)) ?_
  refine jrd 1 [(0, eS 2 eWindow a0), (3, .own 1 0 ((List.replicate ((IntKind.u64.wrap ((IntKind.u64.wrap ((([(-1)] : List Int).length : Nat) : Int)) * (IntKind.u64.wrap ((a0.length : Nat) : Int)))).toNat) (0 : Int)).length))] [some (.row 1 (List.map vi ([(-1)] : List Int))), some (.row 1 (List.map vi y1))] (by kernel_rfl) rfl ?_
  refine TriE.seqK h (fun (v16 : (List Int)) => St.mk [(3, .own 0 0 ((List.replicate ((IntKind.u64.wrap ((IntKind.u64.wrap ((([(-1)] : List Int).length : Nat) : Int)) * (IntKind.u64.wrap ((a0.length : Nat) : Int)))).toNat) (0 : Int)).length))] [some (.row 1 (List.map vi v16))]) ?_ ?_
  · rintro v16 h
    show TriE _ _ _ _ _ (St.mk [(3, .own 0 0 ((List.replicate ((IntKind.u64.wrap ((IntKind.u64.wrap ((([(-1)] : List Int).length : Nat) : Int)) * (IntKind.u64.wrap ((a0.length : Nat) : Int)))).toNat) (0 : Int)).length))] [some (.row 1 (List.map vi v16))]) _
    refine TriE.seq ?_
    refine TriE.run [(2, .own 0 0 ((List.replicate ((IntKind.u64.wrap ((IntKind.u64.wrap ((([(-1)] : List Int).length : Nat) : Int)) * (IntKind.u64.wrap ((a0.length : Nat) : Int)))).toNat) (0 : Int)).length))] [some (.row 1 (List.map vi v16))] (by kernel_rfl) ?_
    refine TriE.ret ?_
    have h := Option.some.inj h
    subst h
    exact DoneS.ret (S' := ⟨[(2, .own 0 0 ((List.replicate ((IntKind.u64.wrap ((IntKind.u64.wrap ((([(-1)] : List Int).length : Nat) : Int)) * (IntKind.u64.wrap ((a0.length : Nat) : Int)))).toNat) (0 : Int)).length))], [some (.row 1 (List.map vi v16))]⟩) Sees.refl rfl rfl
  intro k4 h
  refine TriE.seq ?_
  refine TriE.run [(0, eS 2 eWindow a0), (3, .own 1 0 ((List.replicate ((IntKind.u64.wrap ((IntKind.u64.wrap ((([(-1)] : List Int).length : Nat) : Int)) * (IntKind.u64.wrap ((a0.length : Nat) : Int)))).toNat) (0 : Int)).length)), (12, vi 0)] [some (.row 1 (List.map vi ([(-1)] : List Int))), some (.row 1 (List.map vi y1))] (by kernel_rfl) ?_
  refine TriE.block ?_
  refine TriE.sees (S' := ⟨[(0, eS 2 eWindow a0), (3, .own 0 0 ((List.replicate ((IntKind.u64.wrap ((IntKind.u64.wrap ((([(-1)] : List Int).length : Nat) : Int)) * (IntKind.u64.wrap ((a0.length : Nat) : Int)))).toNat) (0 : Int)).length)), (12, vi ((0 : Nat) : Int))], [some (.row 1 (List.map vi y1))]⟩) (sc [1] (by decide) (by kernel_rfl) (obRen_row vi_frz rfl .nil) rfl rfl) ?_
  refine TriE.loopN h (fun (t : Nat × (List Int)) => match t with | (v8, v9) => St.mk [(0, eS 2 eWindow a0), (3, .own 0 0 ((List.replicate ((IntKind.u64.wrap ((IntKind.u64.wrap ((([(-1)] : List Int).length : Nat) : Int)) * (IntKind.u64.wrap ((a0.length : Nat) : Int)))).toNat) (0 : Int)).length)), (12, vi ((v8 : Nat) : Int))] [some (.row 1 (List.map vi v9))]) rfl ?_
  clear h
  rintro back ⟨v8, v9⟩ h
  dsimp only [diary_schedule_L2] at h
  show TriE _ _ _ _ _ (St.mk [(0, eS 2 eWindow a0), (3, .own 0 0 ((List.replicate ((IntKind.u64.wrap ((IntKind.u64.wrap ((([(-1)] : List Int).length : Nat) : Int)) * (IntKind.u64.wrap ((a0.length : Nat) : Int)))).toNat) (0 : Int)).length)), (12, vi ((v8 : Nat) : Int))] [some (.row 1 (List.map vi v9))]) _
  refine TriE.seq ?_
  refine TriE.regJ ?_
  refine jv (vb (decide (v8 < 1000))) (cz (I0 13 (.bin .lss false (.t 12) (.c (.p (.int .i64 1000))))) (by kernel_rfl)) (n_lss (i := v8) (j := 1000) rfl rfl) rfl ?_
  refine jd [(0, eS 2 eWindow a0), (3, .own 0 0 ((List.replicate ((IntKind.u64.wrap ((IntKind.u64.wrap ((([(-1)] : List Int).length : Nat) : Int)) * (IntKind.u64.wrap ((a0.length : Nat) : Int)))).toNat) (0 : Int)).length)), (12, vi ((v8 : Nat) : Int)), (13, vb (decide (v8 < 1000)))] (by kernel_rfl) rfl ?_
  refine TriE.seq ?_
  refine TriE.cond (b := decide (v8 < 1000)) rfl (fun c1 => ?_) (fun c1 => ?_)
  · have h := cond_t h c1
    refine TriE.skip ?_
    refine TriE.seqK h (fun (v15 : (List Int)) => St.mk [(0, eS 2 eWindow a0), (3, .own 0 0 ((List.replicate ((IntKind.u64.wrap ((IntKind.u64.wrap ((([(-1)] : List Int).length : Nat) : Int)) * (IntKind.u64.wrap ((a0.length : Nat) : Int)))).toNat) (0 : Int)).length)), (12, vi ((v8 : Nat) : Int))] [some (.row 1 (List.map vi v15))]) ?_ ?_
    · rintro v15 h
      show TriE _ _ _ _ _ (St.mk [(0, eS 2 eWindow a0), (3, .own 0 0 ((List.replicate ((IntKind.u64.wrap ((IntKind.u64.wrap ((([(-1)] : List Int).length : Nat) : Int)) * (IntKind.u64.wrap ((a0.length : Nat) : Int)))).toNat) (0 : Int)).length)), (12, vi ((v8 : Nat) : Int))] [some (.row 1 (List.map vi v15))]) _
      refine TriE.regJ ?_
      refine cK h fun c12 h => ?_
      refine jv (vi ((v8 + 1 : Nat) : Int)) (cz (I0 61 (.bin .add false (.t 12) (.c (.p (.int .i64 1))))) (by kernel_rfl)) (r_addn (i := v8) (j := 1) rfl rfl c12) rfl ?_
      refine jrd 1 [(0, eS 2 eWindow a0), (3, .own 0 0 ((List.replicate ((IntKind.u64.wrap ((IntKind.u64.wrap ((([(-1)] : List Int).length : Nat) : Int)) * (IntKind.u64.wrap ((a0.length : Nat) : Int)))).toNat) (0 : Int)).length)), (12, vi ((v8 + 1 : Nat) : Int))] [some (.row 1 (List.map vi v15))] (by kernel_rfl) rfl ?_
      exact Vs.intro (sl (by kernel_rfl)) ⟨(v8 + 1, v15), rfl, h⟩
    intro k3 h
    refine TriE.block ?_
    refine TriE.seq ?_
    refine TriE.run [(0, eS 2 eWindow a0), (3, .own 0 0 ((List.replicate ((IntKind.u64.wrap ((IntKind.u64.wrap ((([(-1)] : List Int).length : Nat) : Int)) * (IntKind.u64.wrap ((a0.length : Nat) : Int)))).toNat) (0 : Int)).length)), (12, vi ((v8 : Nat) : Int)), (4, vi ((v8 : Nat) : Int))] [some (.row 1 (List.map vi v9))] (by kernel_rfl) ?_
    refine TriE.seq ?_
    refine TriE.run [(0, eS 2 eWindow a0), (3, .own 0 0 ((List.replicate ((IntKind.u64.wrap ((IntKind.u64.wrap ((([(-1)] : List Int).length : Nat) : Int)) * (IntKind.u64.wrap ((a0.length : Nat) : Int)))).toNat) (0 : Int)).length)), (12, vi ((v8 : Nat) : Int)), (4, vi ((v8 : Nat) : Int)), (5, vi (-1))] [some (.row 1 (List.map vi v9))] (by kernel_rfl) ?_
    refine TriE.seqK h (fun (v14 : Int) => St.mk [(0, eS 2 eWindow a0), (3, .own 0 0 ((List.replicate ((IntKind.u64.wrap ((IntKind.u64.wrap ((([(-1)] : List Int).length : Nat) : Int)) * (IntKind.u64.wrap ((a0.length : Nat) : Int)))).toNat) (0 : Int)).length)), (12, vi ((v8 : Nat) : Int)), (4, vi ((v8 : Nat) : Int)), (5, vi v14)] [some (.row 1 (List.map vi v9))]) ?_ ?_
    · rintro v14 h
      show TriE _ _ _ _ _ (St.mk [(0, eS 2 eWindow a0), (3, .own 0 0 ((List.replicate ((IntKind.u64.wrap ((IntKind.u64.wrap ((([(-1)] : List Int).length : Nat) : Int)) * (IntKind.u64.wrap ((a0.length : Nat) : Int)))).toNat) (0 : Int)).length)), (12, vi ((v8 : Nat) : Int)), (4, vi ((v8 : Nat) : Int)), (5, vi v14)] [some (.row 1 (List.map vi v9))]) _
      refine TriE.seq ?_
      refine TriE.run [(0, eS 2 eWindow a0), (3, .own 0 0 ((List.replicate ((IntKind.u64.wrap ((IntKind.u64.wrap ((([(-1)] : List Int).length : Nat) : Int)) * (IntKind.u64.wrap ((a0.length : Nat) : Int)))).toNat) (0 : Int)).length)), (12, vi ((v8 : Nat) : Int)), (4, vi ((v8 : Nat) : Int)), (5, vi v14), (56, vb (decide ((0 : Int) ≤ v14)))] [some (.row 1 (List.map vi v9))] (by kernel_rfl) ?_
      refine TriE.cond (b := decide ((0 : Int) ≤ v14)) rfl (fun c9 => ?_) (fun c9 => ?_)
      · have h := cond_t h c9
        refine TriE.regJ ?_
        refine RegJ.run 3 [(0, eS 2 eWindow a0), (3, .own 0 0 ((List.replicate ((IntKind.u64.wrap ((IntKind.u64.wrap ((([(-1)] : List Int).length : Nat) : Int)) * (IntKind.u64.wrap ((a0.length : Nat) : Int)))).toNat) (0 : Int)).length)), (12, vi ((v8 : Nat) : Int)), (57, .own 0 0 ((List.replicate ((IntKind.u64.wrap ((IntKind.u64.wrap ((([(-1)] : List Int).length : Nat) : Int)) * (IntKind.u64.wrap ((a0.length : Nat) : Int)))).toNat) (0 : Int)).length)), (58, vi v14), (59, vi ((v8 : Nat) : Int))] [some (.row 1 (List.map vi v9))] (by kernel_rfl) ?_
        refine cK h fun c10 h => ?_
        refine jv (.ptr 0 v14.toNat 0) (cz (I0 60 (.iaddr 1 (.t 57) (.t 58))) (by kernel_rfl)) (ok_iaddr_o0 (j := v14.toNat) rfl rfl rfl (inB_to c10) (inB_lt c10)) rfl ?_
        refine cK h fun c11 h => ?_
        refine je (.undef) [some (.row 1 (List.map vi (List.set v9 v14.toNat ((v8 : Nat) : Int))))] (cz (IN (.store 1 (.t 60) (.t 59))) (by kernel_rfl)) (ok_store_m (l := v9) (e := vi) (x' := ((v8 : Nat) : Int)) (u := vi ((v8 : Nat) : Int)) rfl rfl rfl c11 rfl rfl) rfl rfl rfl ?_
        refine jd [(0, eS 2 eWindow a0), (3, .own 0 0 ((List.replicate ((IntKind.u64.wrap ((IntKind.u64.wrap ((([(-1)] : List Int).length : Nat) : Int)) * (IntKind.u64.wrap ((a0.length : Nat) : Int)))).toNat) (0 : Int)).length)), (12, vi ((v8 : Nat) : Int))] (by kernel_rfl) rfl ?_
        exact Vs.intro Sees.refl ⟨(List.set v9 v14.toNat ((v8 : Nat) : Int)), rfl, h⟩
      have h := cond_f h c9
      refine TriE.skip ?_
      exact Vs.intro (sl (by kernel_rfl)) ⟨v9, rfl, h⟩
    intro k2 h
    refine TriE.seq ?_
    refine TriE.regJ ?_
    refine RegJ.run 1 [(0, eS 2 eWindow a0), (3, .own 0 0 ((List.replicate ((IntKind.u64.wrap ((IntKind.u64.wrap ((([(-1)] : List Int).length : Nat) : Int)) * (IntKind.u64.wrap ((a0.length : Nat) : Int)))).toNat) (0 : Int)).length)), (12, vi ((v8 : Nat) : Int)), (4, vi ((v8 : Nat) : Int)), (5, vi (-1)), (15, eS 2 eWindow a0)] [some (.row 1 (List.map vi v9))] (by kernel_rfl) ?_
    refine jv (vi ((a0.length : Nat) : Int)) (cz (I0 16 (.len 0 (.t 15))) (by kernel_rfl)) (ok_len_m rfl) rfl ?_
    refine jrd 1 [(0, eS 2 eWindow a0), (3, .own 0 0 ((List.replicate ((IntKind.u64.wrap ((IntKind.u64.wrap ((([(-1)] : List Int).length : Nat) : Int)) * (IntKind.u64.wrap ((a0.length : Nat) : Int)))).toNat) (0 : Int)).length)), (12, vi ((v8 : Nat) : Int)), (4, vi ((v8 : Nat) : Int)), (5, vi (-1)), (15, eS 2 eWindow a0), (16, vi ((a0.length : Nat) : Int)), (17, vi 0)] [some (.row 1 (List.map vi v9))] (by kernel_rfl) rfl ?_
    refine TriE.block ?_
    refine TriE.sees (S' := ⟨[(0, eS 2 eWindow a0), (3, .own 0 0 ((List.replicate ((IntKind.u64.wrap ((IntKind.u64.wrap ((([(-1)] : List Int).length : Nat) : Int)) * (IntKind.u64.wrap ((a0.length : Nat) : Int)))).toNat) (0 : Int)).length)), (12, vi ((v8 : Nat) : Int)), (4, vi ((v8 : Nat) : Int)), (5, vi (-1)), (15, eS 2 eWindow a0), (16, vi ((a0.length : Nat) : Int)), (17, vi ((0 : Nat) : Int))], [some (.row 1 (List.map vi v9))]⟩) (sl (by kernel_rfl)) ?_
    refine TriE.loopN h (fun (t : Int × Nat) => match t with | (v11, v12) => St.mk [(0, eS 2 eWindow a0), (3, .own 0 0 ((List.replicate ((IntKind.u64.wrap ((IntKind.u64.wrap ((([(-1)] : List Int).length : Nat) : Int)) * (IntKind.u64.wrap ((a0.length : Nat) : Int)))).toNat) (0 : Int)).length)), (12, vi ((v8 : Nat) : Int)), (4, vi ((v8 : Nat) : Int)), (5, vi v11), (15, eS 2 eWindow a0), (16, vi ((a0.length : Nat) : Int)), (17, vi ((v12 : Nat) : Int))] [some (.row 1 (List.map vi v9))]) rfl ?_
    clear h
    rintro back ⟨v11, v12⟩ h
    dsimp only [diary_schedule_L1] at h
    show TriE _ _ _ _ _ (St.mk [(0, eS 2 eWindow a0), (3, .own 0 0 ((List.replicate ((IntKind.u64.wrap ((IntKind.u64.wrap ((([(-1)] : List Int).length : Nat) : Int)) * (IntKind.u64.wrap ((a0.length : Nat) : Int)))).toNat) (0 : Int)).length)), (12, vi ((v8 : Nat) : Int)), (4, vi ((v8 : Nat) : Int)), (5, vi v11), (15, eS 2 eWindow a0), (16, vi ((a0.length : Nat) : Int)), (17, vi ((v12 : Nat) : Int))] [some (.row 1 (List.map vi v9))]) _
    refine TriE.seq ?_
    refine TriE.regJ ?_
    refine jv (vb (decide (v12 < a0.length))) (cz (I0 18 (.bin .lss false (.t 17) (.t 16))) (by kernel_rfl)) (n_lss (i := v12) (j := a0.length) rfl rfl) rfl ?_
    refine jd [(0, eS 2 eWindow a0), (3, .own 0 0 ((List.replicate ((IntKind.u64.wrap ((IntKind.u64.wrap ((([(-1)] : List Int).length : Nat) : Int)) * (IntKind.u64.wrap ((a0.length : Nat) : Int)))).toNat) (0 : Int)).length)), (12, vi ((v8 : Nat) : Int)), (4, vi ((v8 : Nat) : Int)), (5, vi v11), (15, eS 2 eWindow a0), (16, vi ((a0.length : Nat) : Int)), (17, vi ((v12 : Nat) : Int)), (18, vb (decide (v12 < a0.length)))] (by kernel_rfl) rfl ?_
    refine TriE.seq ?_
    refine TriE.cond (b := decide (v12 < a0.length)) rfl (fun c2 => ?_) (fun c2 => ?_)
    · have h := cond_t h c2
      refine TriE.skip ?_
      refine TriE.seqK h (fun (v13 : Int) => St.mk [(0, eS 2 eWindow a0), (3, .own 0 0 ((List.replicate ((IntKind.u64.wrap ((IntKind.u64.wrap ((([(-1)] : List Int).length : Nat) : Int)) * (IntKind.u64.wrap ((a0.length : Nat) : Int)))).toNat) (0 : Int)).length)), (12, vi ((v8 : Nat) : Int)), (4, vi ((v8 : Nat) : Int)), (15, eS 2 eWindow a0), (16, vi ((a0.length : Nat) : Int)), (17, vi ((v12 : Nat) : Int)), (5, vi v13)] [some (.row 1 (List.map vi v9))]) ?_ ?_
      · rintro v13 h
        show TriE _ _ _ _ _ (St.mk [(0, eS 2 eWindow a0), (3, .own 0 0 ((List.replicate ((IntKind.u64.wrap ((IntKind.u64.wrap ((([(-1)] : List Int).length : Nat) : Int)) * (IntKind.u64.wrap ((a0.length : Nat) : Int)))).toNat) (0 : Int)).length)), (12, vi ((v8 : Nat) : Int)), (4, vi ((v8 : Nat) : Int)), (15, eS 2 eWindow a0), (16, vi ((a0.length : Nat) : Int)), (17, vi ((v12 : Nat) : Int)), (5, vi v13)] [some (.row 1 (List.map vi v9))]) _
        refine TriE.regJ ?_
        refine cK h fun c8 h => ?_
        refine jv (vi ((v12 + 1 : Nat) : Int)) (cz (I0 54 (.bin .add false (.t 17) (.c (.p (.int .i64 1))))) (by kernel_rfl)) (r_addn (i := v12) (j := 1) rfl rfl c8) rfl ?_
        refine jrd 1 [(0, eS 2 eWindow a0), (3, .own 0 0 ((List.replicate ((IntKind.u64.wrap ((IntKind.u64.wrap ((([(-1)] : List Int).length : Nat) : Int)) * (IntKind.u64.wrap ((a0.length : Nat) : Int)))).toNat) (0 : Int)).length)), (12, vi ((v8 : Nat) : Int)), (4, vi ((v8 : Nat) : Int)), (15, eS 2 eWindow a0), (16, vi ((a0.length : Nat) : Int)), (5, vi v13), (17, vi ((v12 + 1 : Nat) : Int))] [some (.row 1 (List.map vi v9))] (by kernel_rfl) rfl ?_
        exact Vs.intro (sl (by kernel_rfl)) ⟨(v13, v12 + 1), rfl, h⟩
      intro k1 h
      refine TriE.block ?_
      refine TriE.seq ?_
      refine TriE.regJ ?_
      refine RegJ.run 1 [(0, eS 2 eWindow a0), (3, .own 0 0 ((List.replicate ((IntKind.u64.wrap ((IntKind.u64.wrap ((([(-1)] : List Int).length : Nat) : Int)) * (IntKind.u64.wrap ((a0.length : Nat) : Int)))).toNat) (0 : Int)).length)), (12, vi ((v8 : Nat) : Int)), (4, vi ((v8 : Nat) : Int)), (5, vi v11), (15, eS 2 eWindow a0), (16, vi ((a0.length : Nat) : Int)), (17, vi ((v12 : Nat) : Int)), (19, vi ((v12 : Nat) : Int))] [some (.row 1 (List.map vi v9))] (by kernel_rfl) ?_
      refine jv (.fptr 2 (List.map eWindow a0) v12 0) (cz (I0 20 (.iaddr 2 (.t 15) (.t 17))) (by kernel_rfl)) (ok_iaddr_m (j := v12) rfl rfl rfl c2) rfl ?_
      refine jv (.agg [vi ((ix a0 v12).From), vi ((ix a0 v12).To)]) (cz (I0 21 (.load true 2 (.t 20))) (by kernel_rfl)) (ok_load_fm (v := .agg [vi ((ix a0 v12).From), vi ((ix a0 v12).To)]) rfl c2 rfl) rfl ?_
      refine jrd 3 [(0, eS 2 eWindow a0), (3, .own 0 0 ((List.replicate ((IntKind.u64.wrap ((IntKind.u64.wrap ((([(-1)] : List Int).length : Nat) : Int)) * (IntKind.u64.wrap ((a0.length : Nat) : Int)))).toNat) (0 : Int)).length)), (12, vi ((v8 : Nat) : Int)), (4, vi ((v8 : Nat) : Int)), (5, vi v11), (15, eS 2 eWindow a0), (16, vi ((a0.length : Nat) : Int)), (17, vi ((v12 : Nat) : Int)), (7, .ptr 1 0 0), (6, vi ((v12 : Nat) : Int))] [some (.row 1 (List.map vi v9)), some (.row 2 [.agg [vi ((ix a0 v12).From), vi ((ix a0 v12).To)]])] (by kernel_rfl) rfl ?_
      refine TriE.seq ?_
      refine TriE.sees (Sees.less (fr' := [(0, eS 2 eWindow a0), (3, .own 0 0 ((List.replicate ((IntKind.u64.wrap ((IntKind.u64.wrap ((([(-1)] : List Int).length : Nat) : Int)) * (IntKind.u64.wrap ((a0.length : Nat) : Int)))).toNat) (0 : Int)).length)), (12, vi ((v8 : Nat) : Int)), (4, vi ((v8 : Nat) : Int)), (5, vi v11), (15, eS 2 eWindow a0), (16, vi ((a0.length : Nat) : Int)), (17, vi ((v12 : Nat) : Int)), (7, .ptr 1 0 0), (6, vi ((v12 : Nat) : Int))]) (.cons rfl (.cons rfl (.cons rfl (.cons rfl (.cons rfl (.cons rfl (.cons rfl (.cons rfl (.cons rfl (.cons rfl .nil))))))))))) ?_
      refine TriE.draw (by kernel_rfl) ?_
      refine RegD.run 2 [(23, vi ((v12 : Nat) : Int)), (22, .own 0 0 ((List.replicate ((IntKind.u64.wrap ((IntKind.u64.wrap ((([(-1)] : List Int).length : Nat) : Int)) * (IntKind.u64.wrap ((a0.length : Nat) : Int)))).toNat) (0 : Int)).length)), (0, eS 2 eWindow a0), (3, .own 0 0 ((List.replicate ((IntKind.u64.wrap ((IntKind.u64.wrap ((([(-1)] : List Int).length : Nat) : Int)) * (IntKind.u64.wrap ((a0.length : Nat) : Int)))).toNat) (0 : Int)).length)), (12, vi ((v8 : Nat) : Int)), (4, vi ((v8 : Nat) : Int)), (5, vi v11), (15, eS 2 eWindow a0), (16, vi ((a0.length : Nat) : Int)), (17, vi ((v12 : Nat) : Int)), (7, .ptr 1 0 0), (6, vi ((v12 : Nat) : Int))] [some (.row 1 (List.map vi v9)), some (.row 2 [.agg [vi ((ix a0 v12).From), vi ((ix a0 v12).To)]]), none, none] (by kernel_rfl) ?_
      refine cK h fun c3 h => ?_
      refine dv (.ptr 0 v12 0) (cz (I0 24 (.iaddr 1 (.t 22) (.t 23))) (by kernel_rfl)) (ok_iaddr_o0 (j := v12) rfl rfl rfl rfl c3) rfl ?_
      refine cK h fun c4 h => ?_
      refine dv (vi (ix v9 v12)) (cz (I0 25 (.load false 1 (.t 24))) (by kernel_rfl)) (ok_load_pm (l := v9) (e := vi) (v := vi (ix v9 v12)) rfl rfl c4 rfl) rfl ?_
      refine RegD.run 2 [(27, vb (decide ((ix v9 v12) < (0 : Int)))), (26, vb (decide ((ix v9 v12) < (0 : Int)))), (25, vi (ix v9 v12)), (24, .ptr 0 v12 0), (23, vi ((v12 : Nat) : Int)), (22, .own 0 0 ((List.replicate ((IntKind.u64.wrap ((IntKind.u64.wrap ((([(-1)] : List Int).length : Nat) : Int)) * (IntKind.u64.wrap ((a0.length : Nat) : Int)))).toNat) (0 : Int)).length)), (0, eS 2 eWindow a0), (3, .own 0 0 ((List.replicate ((IntKind.u64.wrap ((IntKind.u64.wrap ((([(-1)] : List Int).length : Nat) : Int)) * (IntKind.u64.wrap ((a0.length : Nat) : Int)))).toNat) (0 : Int)).length)), (12, vi ((v8 : Nat) : Int)), (4, vi ((v8 : Nat) : Int)), (5, vi v11), (15, eS 2 eWindow a0), (16, vi ((a0.length : Nat) : Int)), (17, vi ((v12 : Nat) : Int)), (7, .ptr 1 0 0), (6, vi ((v12 : Nat) : Int))] [some (.row 1 (List.map vi v9)), some (.row 2 [.agg [vi ((ix a0 v12).From), vi ((ix a0 v12).To)]]), none, none, none, none, none, none] (by kernel_rfl) ?_
      refine RegD.op (OpD.valk (g := decide ((ix v9 v12) < (0 : Int))) (v := .ptr 1 0 0) _ _ (cz (IG 28 (.faddr 0 (.t 7)) 27 true) (by kernel_rfl)) rfl (by kernel_rfl) (fun hg => (.cons rfl .nil))) ?_
      refine RegD.op (OpD.valk (g := decide ((ix v9 v12) < (0 : Int))) (v := vi ((ix a0 v12).From)) _ _ (cz (IG 29 (.load false 1 (.t 28)) 27 true) (by kernel_rfl)) rfl (by kernel_rfl) (fun hg => (.cons hg .nil))) ?_
      refine RegD.op (OpD.valk (g := decide ((ix v9 v12) < (0 : Int))) (v := vi ((v8 : Nat) : Int)) _ _ (cz (IG 30 (.mov (.t 4)) 27 true) (by kernel_rfl)) rfl (by kernel_rfl) (fun hg => (.cons rfl .nil))) ?_
      refine RegD.op (OpD.valk (g := decide ((ix v9 v12) < (0 : Int))) (v := vb (decide (((ix a0 v12).From) ≤ ((v8 : Nat) : Int)))) _ _ (cz (IG 31 (.bin .leq false (.t 29) (.t 30)) 27 true) (by kernel_rfl)) rfl (by kernel_rfl) (fun hg => (.cons hg (.cons hg .nil)))) ?_
      refine RegD.op (OpD.and (cz (I0 32 (.pick (.t 27) (.t 31) (.c (.p (.bool false))))) (by kernel_rfl)) rfl rfl (by first | exact hokA1 | exact hokA0 | simp)) ?_
      refine RegD.run 1 [(33, vb ((decide ((ix v9 v12) < (0 : Int))) && (decide (((ix a0 v12).From) ≤ ((v8 : Nat) : Int))))), (32, vb ((decide ((ix v9 v12) < (0 : Int))) && (decide (((ix a0 v12).From) ≤ ((v8 : Nat) : Int))))), (31, .cond (decide ((ix v9 v12) < (0 : Int))) (vb (decide (((ix a0 v12).From) ≤ ((v8 : Nat) : Int))))), (30, .cond (decide ((ix v9 v12) < (0 : Int))) (vi ((v8 : Nat) : Int))), (29, .cond (decide ((ix v9 v12) < (0 : Int))) (vi ((ix a0 v12).From))), (28, .cond (decide ((ix v9 v12) < (0 : Int))) (.ptr 1 0 0)), (27, vb (decide ((ix v9 v12) < (0 : Int)))), (26, vb (decide ((ix v9 v12) < (0 : Int)))), (25, vi (ix v9 v12)), (24, .ptr 0 v12 0), (23, vi ((v12 : Nat) : Int)), (22, .own 0 0 ((List.replicate ((IntKind.u64.wrap ((IntKind.u64.wrap ((([(-1)] : List Int).length : Nat) : Int)) * (IntKind.u64.wrap ((a0.length : Nat) : Int)))).toNat) (0 : Int)).length)), (0, eS 2 eWindow a0), (3, .own 0 0 ((List.replicate ((IntKind.u64.wrap ((IntKind.u64.wrap ((([(-1)] : List Int).length : Nat) : Int)) * (IntKind.u64.wrap ((a0.length : Nat) : Int)))).toNat) (0 : Int)).length)), (12, vi ((v8 : Nat) : Int)), (4, vi ((v8 : Nat) : Int)), (5, vi v11), (15, eS 2 eWindow a0), (16, vi ((a0.length : Nat) : Int)), (17, vi ((v12 : Nat) : Int)), (7, .ptr 1 0 0), (6, vi ((v12 : Nat) : Int))] [some (.row 1 (List.map vi v9)), some (.row 2 [.agg [vi ((ix a0 v12).From), vi ((ix a0 v12).To)]]), none, none, none, none, none, none, none, none, none, none, none, none] (by kernel_rfl) ?_
      refine RegD.op (OpD.valk (g := (decide ((ix v9 v12) < (0 : Int))) && (decide (((ix a0 v12).From) ≤ ((v8 : Nat) : Int)))) (v := vi ((v8 : Nat) : Int)) _ _ (cz (IG 34 (.mov (.t 4)) 33 true) (by kernel_rfl)) rfl (by kernel_rfl) (fun hg => (.cons rfl .nil))) ?_
      refine RegD.op (OpD.valk (g := (decide ((ix v9 v12) < (0 : Int))) && (decide (((ix a0 v12).From) ≤ ((v8 : Nat) : Int)))) (v := .ptr 1 0 1) _ _ (cz (IG 35 (.faddr 1 (.t 7)) 33 true) (by kernel_rfl)) rfl (by kernel_rfl) (fun hg => (.cons rfl .nil))) ?_
      refine RegD.op (OpD.valk (g := (decide ((ix v9 v12) < (0 : Int))) && (decide (((ix a0 v12).From) ≤ ((v8 : Nat) : Int)))) (v := vi ((ix a0 v12).To)) _ _ (cz (IG 36 (.load false 1 (.t 35)) 33 true) (by kernel_rfl)) rfl (by kernel_rfl) (fun hg => (.cons hg .nil))) ?_
      refine RegD.op (OpD.valk (g := (decide ((ix v9 v12) < (0 : Int))) && (decide (((ix a0 v12).From) ≤ ((v8 : Nat) : Int)))) (v := vb (decide (((v8 : Nat) : Int) < ((ix a0 v12).To)))) _ _ (cz (IG 37 (.bin .lss false (.t 34) (.t 36)) 33 true) (by kernel_rfl)) rfl (by kernel_rfl) (fun hg => (.cons hg (.cons hg .nil)))) ?_
      refine RegD.op (OpD.and (cz (I0 38 (.pick (.t 33) (.t 37) (.c (.p (.bool false))))) (by kernel_rfl)) rfl rfl (by first | exact hokA1 | exact hokA0 | simp)) ?_
      refine RegD.run 1 [(39, vb (((decide ((ix v9 v12) < (0 : Int))) && (decide (((ix a0 v12).From) ≤ ((v8 : Nat) : Int)))) && (decide (((v8 : Nat) : Int) < ((ix a0 v12).To))))), (38, vb (((decide ((ix v9 v12) < (0 : Int))) && (decide (((ix a0 v12).From) ≤ ((v8 : Nat) : Int)))) && (decide (((v8 : Nat) : Int) < ((ix a0 v12).To))))), (37, .cond ((decide ((ix v9 v12) < (0 : Int))) && (decide (((ix a0 v12).From) ≤ ((v8 : Nat) : Int)))) (vb (decide (((v8 : Nat) : Int) < ((ix a0 v12).To))))), (36, .cond ((decide ((ix v9 v12) < (0 : Int))) && (decide (((ix a0 v12).From) ≤ ((v8 : Nat) : Int)))) (vi ((ix a0 v12).To))), (35, .cond ((decide ((ix v9 v12) < (0 : Int))) && (decide (((ix a0 v12).From) ≤ ((v8 : Nat) : Int)))) (.ptr 1 0 1)), (34, .cond ((decide ((ix v9 v12) < (0 : Int))) && (decide (((ix a0 v12).From) ≤ ((v8 : Nat) : Int)))) (vi ((v8 : Nat) : Int))), (33, vb ((decide ((ix v9 v12) < (0 : Int))) && (decide (((ix a0 v12).From) ≤ ((v8 : Nat) : Int))))), (32, vb ((decide ((ix v9 v12) < (0 : Int))) && (decide (((ix a0 v12).From) ≤ ((v8 : Nat) : Int))))), (31, .cond (decide ((ix v9 v12) < (0 : Int))) (vb (decide (((ix a0 v12).From) ≤ ((v8 : Nat) : Int))))), (30, .cond (decide ((ix v9 v12) < (0 : Int))) (vi ((v8 : Nat) : Int))), (29, .cond (decide ((ix v9 v12) < (0 : Int))) (vi ((ix a0 v12).From))), (28, .cond (decide ((ix v9 v12) < (0 : Int))) (.ptr 1 0 0)), (27, vb (decide ((ix v9 v12) < (0 : Int)))), (26, vb (decide ((ix v9 v12) < (0 : Int)))), (25, vi (ix v9 v12)), (24, .ptr 0 v12 0), (23, vi ((v12 : Nat) : Int)), (22, .own 0 0 ((List.replicate ((IntKind.u64.wrap ((IntKind.u64.wrap ((([(-1)] : List Int).length : Nat) : Int)) * (IntKind.u64.wrap ((a0.length : Nat) : Int)))).toNat) (0 : Int)).length)), (0, eS 2 eWindow a0), (3, .own 0 0 ((List.replicate ((IntKind.u64.wrap ((IntKind.u64.wrap ((([(-1)] : List Int).length : Nat) : Int)) * (IntKind.u64.wrap ((a0.length : Nat) : Int)))).toNat) (0 : Int)).length)), (12, vi ((v8 : Nat) : Int)), (4, vi ((v8 : Nat) : Int)), (5, vi v11), (15, eS 2 eWindow a0), (16, vi ((a0.length : Nat) : Int)), (17, vi ((v12 : Nat) : Int)), (7, .ptr 1 0 0), (6, vi ((v12 : Nat) : Int))] [some (.row 1 (List.map vi v9)), some (.row 2 [.agg [vi ((ix a0 v12).From), vi ((ix a0 v12).To)]]), none, none, none, none, none, none, none, none, none, none, none, none, none, none, none, none, none, none] (by kernel_rfl) ?_
      refine RegD.op (OpD.valk (g := ((decide ((ix v9 v12) < (0 : Int))) && (decide (((ix a0 v12).From) ≤ ((v8 : Nat) : Int)))) && (decide (((v8 : Nat) : Int) < ((ix a0 v12).To)))) (v := vi v11) _ _ (cz (IG 40 (.mov (.t 5)) 39 true) (by kernel_rfl)) rfl (by kernel_rfl) (fun hg => (.cons rfl .nil))) ?_
      refine RegD.op (OpD.valk (g := ((decide ((ix v9 v12) < (0 : Int))) && (decide (((ix a0 v12).From) ≤ ((v8 : Nat) : Int)))) && (decide (((v8 : Nat) : Int) < ((ix a0 v12).To)))) (v := vb (decide (v11 < (0 : Int)))) _ _ (cz (IG 41 (.bin .lss false (.t 40) (.c (.p (.int .i64 0)))) 39 true) (by kernel_rfl)) rfl (by kernel_rfl) (fun hg => (.cons hg (.cons rfl .nil)))) ?_
      refine RegD.op (OpD.valk (g := ((decide ((ix v9 v12) < (0 : Int))) && (decide (((ix a0 v12).From) ≤ ((v8 : Nat) : Int)))) && (decide (((v8 : Nat) : Int) < ((ix a0 v12).To)))) (v := vb (decide (v11 < (0 : Int)))) _ _ (cz (IG 42 (.mov (.t 41)) 39 true) (by kernel_rfl)) rfl (by kernel_rfl) (fun hg => (.cons hg .nil))) ?_
      refine RegD.op (OpD.valk (g := (((decide ((ix v9 v12) < (0 : Int))) && (decide (((ix a0 v12).From) ≤ ((v8 : Nat) : Int)))) && (decide (((v8 : Nat) : Int) < ((ix a0 v12).To)))) && !(decide (v11 < (0 : Int)))) (v := .ptr 1 0 1) _ _ (cz (IG 43 (.faddr 1 (.t 7)) 42 false) (by kernel_rfl)) rfl (by kernel_rfl) (fun hg => (.cons rfl .nil))) ?_
      refine RegD.op (OpD.valk (g := (((decide ((ix v9 v12) < (0 : Int))) && (decide (((ix a0 v12).From) ≤ ((v8 : Nat) : Int)))) && (decide (((v8 : Nat) : Int) < ((ix a0 v12).To)))) && !(decide (v11 < (0 : Int)))) (v := vi ((ix a0 v12).To)) _ _ (cz (IG 44 (.load false 1 (.t 43)) 42 false) (by kernel_rfl)) rfl (by kernel_rfl) (fun hg => (.cons hg .nil))) ?_
      refine RegD.op (OpD.valk (g := (((decide ((ix v9 v12) < (0 : Int))) && (decide (((ix a0 v12).From) ≤ ((v8 : Nat) : Int)))) && (decide (((v8 : Nat) : Int) < ((ix a0 v12).To)))) && !(decide (v11 < (0 : Int)))) (v := eS 2 eWindow a0) _ _ (cz (IG 45 (.mov (.t 0)) 42 false) (by kernel_rfl)) rfl (by kernel_rfl) (fun hg => (.cons rfl .nil))) ?_
      refine RegD.op (OpD.valk (g := (((decide ((ix v9 v12) < (0 : Int))) && (decide (((ix a0 v12).From) ≤ ((v8 : Nat) : Int)))) && (decide (((v8 : Nat) : Int) < ((ix a0 v12).To)))) && !(decide (v11 < (0 : Int)))) (v := vi v11) _ _ (cz (IG 46 (.mov (.t 5)) 42 false) (by kernel_rfl)) rfl (by kernel_rfl) (fun hg => (.cons rfl .nil))) ?_
      refine cK h fun c5 h => ?_
      refine RegD.op (OpD.valg (g := (((decide ((ix v9 v12) < (0 : Int))) && (decide (((ix a0 v12).From) ≤ ((v8 : Nat) : Int)))) && (decide (((v8 : Nat) : Int) < ((ix a0 v12).To)))) && !(decide (v11 < (0 : Int)))) (v := .fptr 2 (List.map eWindow a0) v11.toNat 0) _ _ (cz (IG 47 (.iaddr 2 (.t 45) (.t 46)) 42 false) (by kernel_rfl)) rfl (fun hg => (ok_iaddr_m (j := v11.toNat) rfl rfl (inB_to (gor c5 hg)) (inB_lt (gor c5 hg)))) (fun hg => (.cons hg (.cons hg .nil)))) ?_
      refine RegD.op (OpD.valk (g := (((decide ((ix v9 v12) < (0 : Int))) && (decide (((ix a0 v12).From) ≤ ((v8 : Nat) : Int)))) && (decide (((v8 : Nat) : Int) < ((ix a0 v12).To)))) && !(decide (v11 < (0 : Int)))) (v := .fptr 2 (List.map eWindow a0) v11.toNat 1) _ _ (cz (IG 48 (.faddr 1 (.t 47)) 42 false) (by kernel_rfl)) rfl (by kernel_rfl) (fun hg => (.cons hg .nil))) ?_
      refine cK h fun c6 h => ?_
      refine RegD.op (OpD.valg (g := (((decide ((ix v9 v12) < (0 : Int))) && (decide (((ix a0 v12).From) ≤ ((v8 : Nat) : Int)))) && (decide (((v8 : Nat) : Int) < ((ix a0 v12).To)))) && !(decide (v11 < (0 : Int)))) (v := vi ((ix a0 v11.toNat).To)) _ _ (cz (IG 49 (.load false 1 (.t 48)) 42 false) (by kernel_rfl)) rfl (fun hg => (ok_load_fm (v := vi ((ix a0 v11.toNat).To)) rfl (gor c6 hg) rfl)) (fun hg => (.cons hg .nil))) ?_
      refine RegD.op (OpD.valk (g := (((decide ((ix v9 v12) < (0 : Int))) && (decide (((ix a0 v12).From) ≤ ((v8 : Nat) : Int)))) && (decide (((v8 : Nat) : Int) < ((ix a0 v12).To)))) && !(decide (v11 < (0 : Int)))) (v := vb (decide (((ix a0 v12).To) < ((ix a0 v11.toNat).To)))) _ _ (cz (IG 50 (.bin .lss false (.t 44) (.t 49)) 42 false) (by kernel_rfl)) rfl (by kernel_rfl) (fun hg => (.cons hg (.cons hg .nil)))) ?_
      refine RegD.op (OpD.org (g := ((decide ((ix v9 v12) < (0 : Int))) && (decide (((ix a0 v12).From) ≤ ((v8 : Nat) : Int)))) && (decide (((v8 : Nat) : Int) < ((ix a0 v12).To)))) (cz (IG 51 (.pick (.t 42) (.c (.p (.bool true))) (.t 50)) 39 true) (by kernel_rfl)) rfl rfl rfl (fun hg => by first | exact hokO2 hg | exact hokO3 hg | exact hokO1 | exact hokO0 | (rw [hg]; simp) | simp_all)) ?_
      refine RegD.op (OpD.and (cz (I0 52 (.pick (.t 39) (.t 51) (.c (.p (.bool false))))) (by kernel_rfl)) rfl rfl (by first | exact hokA1 | exact hokA0 | simp)) ?_
      refine RegD.done rfl (by kernel_rfl) (S' := ⟨[(0, eS 2 eWindow a0), (3, .own 0 0 ((List.replicate ((IntKind.u64.wrap ((IntKind.u64.wrap ((([(-1)] : List Int).length : Nat) : Int)) * (IntKind.u64.wrap ((a0.length : Nat) : Int)))).toNat) (0 : Int)).length)), (12, vi ((v8 : Nat) : Int)), (4, vi ((v8 : Nat) : Int)), (5, vi v11), (15, eS 2 eWindow a0), (16, vi ((a0.length : Nat) : Int)), (17, vi ((v12 : Nat) : Int)), (6, vi ((v12 : Nat) : Int)), (52, vb ((((decide ((ix v9 v12) < (0 : Int))) && (decide (((ix a0 v12).From) ≤ ((v8 : Nat) : Int)))) && (decide (((v8 : Nat) : Int) < ((ix a0 v12).To)))) && ((decide (v11 < (0 : Int))) || (decide (((ix a0 v12).To) < ((ix a0 v11.toNat).To))))))], [some (.row 1 (List.map vi v9))]⟩) (sc [0] (by decide) (by kernel_rfl) (obRen_row vi_frz (by kernel_rfl) .nil) rfl rfl) ?_
      refine TriE.cond (b := (((decide ((ix v9 v12) < (0 : Int))) && (decide (((ix a0 v12).From) ≤ ((v8 : Nat) : Int)))) && (decide (((v8 : Nat) : Int) < ((ix a0 v12).To)))) && ((decide (v11 < (0 : Int))) || (decide (((ix a0 v12).To) < ((ix a0 v11.toNat).To))))) rfl (fun c7 => ?_) (fun c7 => ?_)
      · have h := cond_t h c7
        refine TriE.run [(0, eS 2 eWindow a0), (3, .own 0 0 ((List.replicate ((IntKind.u64.wrap ((IntKind.u64.wrap ((([(-1)] : List Int).length : Nat) : Int)) * (IntKind.u64.wrap ((a0.length : Nat) : Int)))).toNat) (0 : Int)).length)), (12, vi ((v8 : Nat) : Int)), (4, vi ((v8 : Nat) : Int)), (15, eS 2 eWindow a0), (16, vi ((a0.length : Nat) : Int)), (17, vi ((v12 : Nat) : Int)), (5, vi ((v12 : Nat) : Int))] [some (.row 1 (List.map vi v9))] (by kernel_rfl) ?_
        exact Vs.intro Sees.refl ⟨((v12 : Nat) : Int), rfl, h⟩
      have h := cond_f h c7
      refine TriE.skip ?_
      exact Vs.intro (sl (by kernel_rfl)) ⟨v11, rfl, h⟩
    have h := cond_f h c2
    refine TriE.exit ?_
    exact Vs.intro (sl (by kernel_rfl)) ⟨v11, rfl, h⟩
  have h := cond_f h c1
  refine TriE.exit ?_
  exact Vs.intro (sl (by kernel_rfl)) ⟨v9, rfl, h⟩
theorem diary_Most_ok (n : Nat) (a0 : List Window) (r : Int ⊕ (List Int)) (h : diary_Most n a0 = some r) : FnL Try.prog 36 [eS 2 eWindow a0] [] (match r with | .inl r => .tup [.emp, vi r] | .inr r => .tup [.own 0 0 ((List.replicate ((IntKind.u64.wrap ((IntKind.u64.wrap ((([(-1)] : List Int).length : Nat) : Int)) * (IntKind.u64.wrap (a0.length : Int)))).toNat) (0 : Int)).length), vi 0]) (match r with | .inl r => [] | .inr r => [some (.row 1 (List.map vi r))]) := by
 dsimp only [diary_Most] at h
 refine FnL.ofS (ts := [2, 3]) Try.call36 Try.func36 rfl rfl (Nat.le_of_ble_eq_true rfl) (by rcases r with r | r <;> exact Nat.le_of_ble_eq_true rfl) (fun j h => absurd h (Nat.not_lt_zero j)) ?_
 refine sk .a ?_
 refine q1 ?_
 refine sj ?_
 refine rk 1 (.k (.i 5 (eS 2 eWindow a0) .n)) ?_
 refine bK h fun y1 hy1 h => ?_
 refine jc 6 [5] (diary_CheckWindows_ok n a0 y1 hy1) ?_
 refine jk 1 (.d (.k (.i 4 (vi y1) .n))) ?_
 refine sk (.k2 (.i 8 (vb (y1 != (0 : Int))) .n)) ?_
 refine tc h (fun c1 h => ?_) (fun c1 h => ?_)
 ·refine sk (.i 2 .emp (.i 3 (vi y1) .n)) ?_
  refine q3 ?_
  have h := si h
  subst h
  exact DoneS.ret Sees.refl rfl rfl
 refine q2 ?_
 refine sj ?_
 refine rk 1 (.i 10 (eS 2 eWindow a0) .n) ?_
 refine bK h fun y2 hy2 h => ?_
 refine jco (.own 0 0 ((List.replicate ((IntKind.u64.wrap ((IntKind.u64.wrap ((([(-1)] : List Int).length : Nat) : Int)) * (IntKind.u64.wrap (a0.length : Int)))).toNat) (0 : Int)).length)) 11 [10] (diary_schedule_ok n a0 y2 hy2) [] rfl ObsRen.nil (.same (row_ren vi_frz _ _ _) .nil) rfl ?_
 refine jk 2 (.i 2 (.own 0 0 ((List.replicate ((IntKind.u64.wrap ((IntKind.u64.wrap ((([(-1)] : List Int).length : Nat) : Int)) * (IntKind.u64.wrap (a0.length : Int)))).toNat) (0 : Int)).length)) (.i 3 (vi 0) .n)) ?_
 refine q3 ?_
 have h := si h
 subst h
 exact DoneS.ret Sees.refl rfl rfl
theorem agraffebase_Ints_ok (n : Nat) (a0 : List Int) (a1 : List Int) (r : Bool) (h : agraffebase_Ints n a0 a1 = some r) : FnL Try.prog 41 [eS 1 vi a0, eS 1 vi a1] [] (vb r) [] := by
 dsimp only [agraffebase_Ints] at h
 refine fo [4] Try.call41 Try.func41 rfl ?_
 refine sk .a ?_
 refine q1 ?_
 refine sj ?_
 refine rk 1 (.k2 (.i 6 (eS 1 vi a0) .n)) ?_
 refine jo 7 (.len 0 6) (ok_len_m rfl) ?_
 refine rk 1 (.d (.k2 (.i 7 (vi (a0.length : Int)) (.i 8 (eS 1 vi a1) .n)))) ?_
 refine jo 9 (.len 0 8) (ok_len_m rfl) ?_
 refine jo 10 (.bin .neq false 7 9) (n_neq (i := a0.length) (j := a1.length) rfl rfl) ?_
 refine jf (.d2 (.k2 (.i 10 (vb (!decide (a0.length = a1.length))) .n))) ?_
 refine tc h (fun c1 h => ?_) (fun c1 h => ?_)
 ·refine sk (.i 4 (vb false) .n) ?_
  refine q3 ?_
  have h := si h
  subst h
  exact DoneS.ret Sees.refl rfl rfl
 refine q2 ?_
 refine TriE.seqK h (fun (_ : Unit) => St.mk [] []) ?_ ?_
 ·rintro ⟨⟩ h
  refine sk (.i 4 (vb true) .n) ?_
  refine q3 ?_
  have h := si h
  subst h
  exact DoneS.ret Sees.refl rfl rfl
 intro k1 h
 refine sk (.k2 (.i 5 (vi 0) .n)) ?_
 refine q4 ?_
 refine ts (.k2 (.i 5 (vi 0) .n)) ?_
 refine TriE.loopN h (fun (v1 : Nat) => St.mk [(0, eS 1 vi a0), (1, eS 1 vi a1), (5, vi v1)] []) rfl ?_
 clear h
 rintro back v1 h
 dsimp only [agraffebase_Ints_L1] at h
 refine q1 ?_
 refine sj ?_
 refine rk 2 (.k3 (.i 11 (vi v1) (.i 12 (eS 1 vi a0) .n))) ?_
 refine jo 13 (.len 0 12) (ok_len_m rfl) ?_
 refine jo 14 (.bin .lss false 11 13) (n_lss (i := v1) (j := a0.length) rfl rfl) ?_
 refine jf (.d2 (.k3 (.i 14 (vb (decide (v1 < a0.length))) .n))) ?_
 refine tc h (fun c2 h => ?_) (fun c2 h => ?_)
 ·refine q2 ?_
  refine q7 ?_
  refine q1 ?_
  refine ts (.k3 .n) ?_
  refine TriE.draw (by kernel_rfl) ?_
  refine dk 2 (.i 18 (vi v1) (.i 17 (eS 1 vi a0) .a)) ?_
  refine dp 19 (.iaddr 1 17 18) (ok_iaddr_m (j := v1) rfl rfl rfl c2) ?_
  refine dp 20 (.load false 1 19) (ok_load_fm (v := vi (ix a0 v1)) rfl c2 rfl) ?_
  refine dk 2 (.i 22 (vi v1) (.i 21 (eS 1 vi a1) .a)) ?_
  refine cK h fun c3 h => ?_
  refine dp 23 (.iaddr 1 21 22) (ok_iaddr_m (j := v1) rfl rfl rfl c3) ?_
  refine dp 24 (.load false 1 23) (ok_load_fm (v := vi (ix a1 v1)) rfl c3 rfl) ?_
  refine dk 1 (.i 25 (vb ((ix a0 v1) != (ix a1 v1))) .a) ?_
  refine dfi (.d4 (.d4 (.d (.k3 (.i 25 (vb ((ix a0 v1) != (ix a1 v1))) .n))))) [] ObRen.nil ?_
  refine tc h (fun c4 h => ?_) (fun c4 h => ?_)
  ·refine sk (.i 4 (vb false) .n) ?_
   refine q3 ?_
   have h := si h
   subst h
   exact DoneS.ret Sees.refl rfl rfl
  refine q2 ?_
  refine q6 ?_
  refine rk 1 (.k2 (.i 15 (vi v1) .n)) ?_
  refine cK h fun c5 h => ?_
  refine jo 16 (.bin .add false 15 (ki 1)) (r_addn (i := v1) (j := 1) rfl rfl c5) ?_
  refine jk 1 (.d (.k2 (.i 5 (vi ((v1 + 1 : Nat) : Int)) .n))) ?_
  exact Vs.intro sy ⟨(v1 + 1), rfl, h⟩
 refine q5 ?_
 exact Vs.intro sy ⟨(), rfl, h⟩
theorem agraffebase_Ints_2_ok (n : Nat) (a0 : List Int) (a1 : Nat) (a2 : Nat) (a3 : List Int) (r : Bool) (h : agraffebase_Ints_2 n a0 a1 a2 a3 = some r) : FnL Try.prog 41 [.own 0 a1 a2, eS 1 vi a3] [some (.row 1 (List.map vi a0))] (vb r) [some (.row 1 (List.map vi a0))] := by
 dsimp only [agraffebase_Ints_2] at h
 refine fob [4] Try.call41 Try.func41 rfl (.cons rfl .nil) ?_
 refine sk .a ?_
 refine q1 ?_
 refine sj ?_
 refine rk 3 (.k2 (.i 7 (vi a2) (.i 8 (eS 1 vi a3) .n))) ?_
 refine jo 9 (.len 0 8) (ok_len_m rfl) ?_
 refine jo 10 (.bin .neq false 7 9) (n_neq (i := a2) (j := a3.length) rfl rfl) ?_
 refine jf (.d2 (.k2 (.i 10 (vb (!decide (a2 = a3.length))) .n))) ?_
 refine tc h (fun c1 h => ?_) (fun c1 h => ?_)
 ·refine sk (.i 4 (vb false) .n) ?_
  refine q3 ?_
  have h := si h
  subst h
  exact DoneS.ret Sees.refl rfl rfl
 refine q2 ?_
 refine TriE.seqK h (fun (_ : Unit) => St.mk [] [some (.row 1 (List.map vi a0))]) ?_ ?_
 ·rintro ⟨⟩ h
  refine sk (.i 4 (vb true) .n) ?_
  refine q3 ?_
  have h := si h
  subst h
  exact DoneS.ret Sees.refl rfl rfl
 intro k1 h
 refine sk (.k2 (.i 5 (vi 0) .n)) ?_
 refine q4 ?_
 refine ts (.k2 (.i 5 (vi 0) .n)) ?_
 refine TriE.loopN h (fun (v1 : Nat) => St.mk [(0, .own 0 a1 a2), (1, eS 1 vi a3), (5, vi v1)] [some (.row 1 (List.map vi a0))]) rfl ?_
 clear h
 rintro back v1 h
 dsimp only [agraffebase_Ints_2_L1] at h
 refine q1 ?_
 refine sj ?_
 refine rk 3 (.k3 (.i 11 (vi v1) (.i 13 (vi a2) .n))) ?_
 refine jo 14 (.bin .lss false 11 13) (n_lss (i := v1) (j := a2) rfl rfl) ?_
 refine jf (.d (.k3 (.i 14 (vb (decide (v1 < a2))) .n))) ?_
 refine tc h (fun c2 h => ?_) (fun c2 h => ?_)
 ·refine q2 ?_
  refine q7 ?_
  refine q1 ?_
  refine ts (.k3 .n) ?_
  refine TriE.draw (by kernel_rfl) ?_
  refine dk 2 (.i 18 (vi v1) (.i 17 (.own 0 a1 a2) .a)) ?_
  refine dp 19 (.iaddr 1 17 18) (ok_iaddr_o (j := v1) rfl rfl rfl rfl c2) ?_
  refine cK h fun c3 h => ?_
  refine dp 20 (.load false 1 19) (ok_load_pm (l := a0) (e := vi) (v := vi (ix a0 (a1 + v1))) rfl rfl c3 rfl) ?_
  refine dk 2 (.i 22 (vi v1) (.i 21 (eS 1 vi a3) .a)) ?_
  refine cK h fun c4 h => ?_
  refine dp 23 (.iaddr 1 21 22) (ok_iaddr_m (j := v1) rfl rfl rfl c4) ?_
  refine dp 24 (.load false 1 23) (ok_load_fm (v := vi (ix a3 v1)) rfl c4 rfl) ?_
  refine dk 1 (.i 25 (vb ((ix a0 (a1 + v1)) != (ix a3 v1))) .a) ?_
  refine dfi (.d4 (.d4 (.d (.k3 (.i 25 (vb ((ix a0 (a1 + v1)) != (ix a3 v1))) .n))))) [0] (obRen_row vi_frz rfl .nil) ?_
  refine tc h (fun c5 h => ?_) (fun c5 h => ?_)
  ·refine sk (.i 4 (vb false) .n) ?_
   refine q3 ?_
   have h := si h
   subst h
   exact DoneS.ret Sees.refl rfl rfl
  refine q2 ?_
  refine q6 ?_
  refine rk 1 (.k2 (.i 15 (vi v1) .n)) ?_
  refine cK h fun c6 h => ?_
  refine jo 16 (.bin .add false 15 (ki 1)) (r_addn (i := v1) (j := 1) rfl rfl c6) ?_
  refine jk 1 (.d (.k2 (.i 5 (vi ((v1 + 1 : Nat) : Int)) .n))) ?_
  exact Vs.intro sy ⟨(v1 + 1), rfl, h⟩
 refine q5 ?_
 exact Vs.intro sy ⟨(), rfl, h⟩
set_option maxHeartbeats 1000000 in
theorem agraffelaw09_awake_ok (n : Nat)  (r : Bool) (h : agraffelaw09_awake n  = some r) : FnL Try.prog 13 [] [] (vb r) [] := by
 dsimp only [agraffelaw09_awake] at h
 refine fo [0] Try.call13 Try.func13 rfl ?_
 refine sk .n ?_
 refine sj ?_
 refine bK h fun y1 hy1 h => ?_
 refine jc 10 [] (agraffelaw09_Town_ok n y1 hy1) ?_
 refine bK h fun y2 hy2 h => ?_
 refine jc 11 [10, (.c (.p (.string ⟨#[115, 104, 111, 112]⟩))), (ki 100)] (diary_Distances_ok n (Diary.mk ([([115, 104, 111, 112] : Str), ([104, 97, 108, 108] : Str), ([104, 111, 109, 101] : Str)] : List Str) ([([97, 110, 110] : Str), ([98, 111, 98] : Str)] : List Str) ([(Road.mk ([115, 104, 111, 112] : Str) ([104, 97, 108, 108] : Str) 30 200), (Road.mk ([104, 97, 108, 108] : Str) ([104, 111, 109, 101] : Str) 20 100), (Road.mk ([115, 104, 111, 112] : Str) ([104, 111, 109, 101] : Str) 60 150)] : List Road) ([(Grand.mk ([103] : Str) ([115, 104, 111, 112] : Str) 150), (Grand.mk ([117] : Str) ([104, 111, 109, 101] : Str) 100)] : List Grand) 10 300) ([115, 104, 111, 112] : Str) 100 y2 hy2) ?_
 refine jk 5 (.i 1 (eS 1 vi y2.2) (.i 2 (vi y2.1) .n)) ?_
 refine sj ?_
 refine bK h fun y3 hy3 h => ?_
 refine jc 15 [] (agraffelaw09_Town_ok n y3 hy3) ?_
 refine bK h fun y4 hy4 h => ?_
 refine jc 16 [] (agraffelaw09_Evening_ok n y4 hy4) ?_
 refine bK h fun y5 hy5 h => ?_
 refine jc 17 [15, 16] (diary_Accept_ok n (Diary.mk ([([115, 104, 111, 112] : Str), ([104, 97, 108, 108] : Str), ([104, 111, 109, 101] : Str)] : List Str) ([([97, 110, 110] : Str), ([98, 111, 98] : Str)] : List Str) ([(Road.mk ([115, 104, 111, 112] : Str) ([104, 97, 108, 108] : Str) 30 200), (Road.mk ([104, 97, 108, 108] : Str) ([104, 111, 109, 101] : Str) 20 100), (Road.mk ([115, 104, 111, 112] : Str) ([104, 111, 109, 101] : Str) 60 150)] : List Road) ([(Grand.mk ([103] : Str) ([115, 104, 111, 112] : Str) 150), (Grand.mk ([117] : Str) ([104, 111, 109, 101] : Str) 100)] : List Grand) 10 300) ([(Item.mk 1 0 40 ([103] : Str) ([104, 97, 108, 108] : Str) ([] : Str) 0), (Item.mk 0 50 110 ([103] : Str) ([104, 97, 108, 108] : Str) ([97, 110, 110] : Str) 0), (Item.mk 2 200 300 ([103] : Str) ([104, 97, 108, 108] : Str) ([] : Str) 0)] : List Item) y5 hy5) ?_
 refine jk 5 (.d3 (.k2 (.i 3 (vi y5.2) (.i 4 (vi y5.1) .n)))) ?_
 refine sj ?_
 refine bK h fun y6 hy6 h => ?_
 refine jc 21 [] (agraffelaw09_Town_ok n y6 hy6) ?_
 refine bK h fun y7 hy7 h => ?_
 refine jc 22 [] (agraffelaw09_Evening_ok n y7 hy7) ?_
 refine rk 1 (.d2 (.k4 (.i 21 (.agg [eS 1 vt ([([115, 104, 111, 112] : Str), ([104, 97, 108, 108] : Str), ([104, 111, 109, 101] : Str)] : List Str), eS 1 vt ([([97, 110, 110] : Str), ([98, 111, 98] : Str)] : List Str), eS 4 eRoad ([(Road.mk ([115, 104, 111, 112] : Str) ([104, 97, 108, 108] : Str) 30 200), (Road.mk ([104, 97, 108, 108] : Str) ([104, 111, 109, 101] : Str) 20 100), (Road.mk ([115, 104, 111, 112] : Str) ([104, 111, 109, 101] : Str) 60 150)] : List Road), eS 3 eGrand ([(Grand.mk ([103] : Str) ([115, 104, 111, 112] : Str) 150), (Grand.mk ([117] : Str) ([104, 111, 109, 101] : Str) 100)] : List Grand), vi 10, vi 300]) (.i 22 (eS 7 eItem ([(Item.mk 1 0 40 ([103] : Str) ([104, 97, 108, 108] : Str) ([] : Str) 0), (Item.mk 0 50 110 ([103] : Str) ([104, 97, 108, 108] : Str) ([97, 110, 110] : Str) 0), (Item.mk 2 200 300 ([103] : Str) ([104, 97, 108, 108] : Str) ([] : Str) 0)] : List Item)) (.i 23 (.agg [vi 0, vi 120, vi 180, vt ([117] : Str), vt ([104, 111, 109, 101] : Str), vt ([97, 110, 110] : Str), vi 0]) .n))))) ?_
 refine bK h fun y8 hy8 h => ?_
 refine jc 24 [21, 22, 23] (diary_FreeFrom_ok n (Diary.mk ([([115, 104, 111, 112] : Str), ([104, 97, 108, 108] : Str), ([104, 111, 109, 101] : Str)] : List Str) ([([97, 110, 110] : Str), ([98, 111, 98] : Str)] : List Str) ([(Road.mk ([115, 104, 111, 112] : Str) ([104, 97, 108, 108] : Str) 30 200), (Road.mk ([104, 97, 108, 108] : Str) ([104, 111, 109, 101] : Str) 20 100), (Road.mk ([115, 104, 111, 112] : Str) ([104, 111, 109, 101] : Str) 60 150)] : List Road) ([(Grand.mk ([103] : Str) ([115, 104, 111, 112] : Str) 150), (Grand.mk ([117] : Str) ([104, 111, 109, 101] : Str) 100)] : List Grand) 10 300) ([(Item.mk 1 0 40 ([103] : Str) ([104, 97, 108, 108] : Str) ([] : Str) 0), (Item.mk 0 50 110 ([103] : Str) ([104, 97, 108, 108] : Str) ([97, 110, 110] : Str) 0), (Item.mk 2 200 300 ([103] : Str) ([104, 97, 108, 108] : Str) ([] : Str) 0)] : List Item) (Item.mk 0 120 180 ([117] : Str) ([104, 111, 109, 101] : Str) ([97, 110, 110] : Str) 0) y8 hy8) ?_
 refine jk 5 (.d (.k4 (.i 5 (vi y8.2) (.i 6 (vi y8.1) .n)))) ?_
 refine TriE.seqK2 h (fun (v12 : Int) => St.mk [(1, eS 1 vi y2.2), (2, vi y2.1), (3, vi y5.2), (4, vi y5.1), (5, vi y8.2), (6, vi y8.1), (7, .emp), (8, vi v12)] []) (fun (v17 : (List Int)) => St.mk [(1, eS 1 vi y2.2), (2, vi y2.1), (3, vi y5.2), (4, vi y5.1), (5, vi y8.2), (6, vi y8.1), (7, .own 0 0 ((List.replicate ((IntKind.u64.wrap ((IntKind.u64.wrap ((([(-1)] : List Int).length : Nat) : Int)) * (IntKind.u64.wrap ((([(Window.mk 0 2), (Window.mk 0 2), (Window.mk 1 3), (Window.mk 2 3)] : List Window).length : Nat) : Int)))).toNat) (0 : Int)).length)), (8, vi 0)] [some (.row 1 (List.map vi v17))]) ?_ ?_ ?_
 ·rintro v12 h
  refine TriE.seqK h (fun (v16 : Bool) => St.mk [(0, vb v16)] []) ?_ ?_
  ·rintro v16 h
   refine q3 ?_
   have h := si h
   subst h
   exact DoneS.ret Sees.refl rfl rfl
  intro k2 h
  refine q6 ?_
  refine rk 3 (.k (.d (.k4 (.k2 (.i 38 (vb (y2.1 == (0 : Int))) .n))))) ?_
  refine gj (eS 1 vi y2.2) 39 (.mov 1) 38 true rfl ?_
  rcases Bool.eq_false_or_eq_true ((y2.1 == (0 : Int))) with c1 | c1
  ·have h := cond_t h c1
   refine RegJ.op (Op1.effk (v := .own 0 0 3) (ob' := [some (.row 1 [vi 0, vi 30, vi 50])]) _ _ (cy (IG 40 (.bslice 1 (.p (.int .i64 0)) 3 [(0, (ki 0)), (1, (ki 30)), (2, (ki 50))]) 38 true)) (congrArg some c1) (by kernel_rfl) (.cons rfl (.cons rfl (.cons rfl .nil)))) ?_
   refine RegJ.sees (Sees.freeze 0 (fr' := [(1, eS 1 vi y2.2), (3, vi y5.2), (4, vi y5.1), (5, vi y8.2), (6, vi y8.1), (7, .emp), (8, vi v12), (38, vb (y2.1 == (0 : Int))), (39, .cond (y2.1 == (0 : Int)) (eS 1 vi y2.2)), (40, eS 1 vi ([0, 30, 50] : List Int))]) (ob' := [none]) rfl (frzs_cons rfl (frzs_cons rfl (frzs_cons rfl frzs_nil))) (.cons (.refl _) (.cons (.refl _) (.cons (.refl _) (.cons (.refl _) (.cons (.refl _) (.cons (.refl _) (.cons (.refl _) (.cons (.refl _) (.cons (.refl _) (.cons (.own rfl (Nat.le_of_ble_eq_true rfl)) .nil)))))))))) rfl) ?_
   refine bK h fun y13 hy13 h => ?_
   refine RegJ.op (Op1.call (y' := vb y13) (obx := []) (oby := []) (ob2 := [none]) _ _ (cy (IG 41 (.call 41 [39, 40]) 38 true)) (congrArg some c1) (agraffebase_Ints_ok n y2.2 ([0, 30, 50] : List Int) y13 hy13) [] (by kernel_rfl) (.cons rfl (.cons c1 (.cons rfl .nil))) (by kernel_rfl) (by kernel_rfl) ObsRen.nil (by kernel_rfl) ObsRen.nil (by kernel_rfl)) ?_
   refine pa 42 38 41 rfl rfl ?_
   refine rk 1 (.d3 (.k4 (.k2 (.i 43 (vb ((y2.1 == (0 : Int)) && y13)) .n)))) ?_
   refine gj (vi y5.1) 44 (.mov 4) 43 true rfl ?_
   refine gk (vb (y5.1 == (0 : Int))) 45 (.bin .eql false 44 (ki 0)) 43 true rfl (fun hg => (.cons hg (.cons rfl .nil))) ?_
   refine pa 46 43 45 rfl rfl ?_
   refine rk 1 (.d3 (.k (.d (.k4 (.i 47 (vb (((y2.1 == (0 : Int)) && y13) && (y5.1 == (0 : Int)))) .n))))) ?_
   refine gj (vi y5.2) 48 (.mov 3) 47 true rfl ?_
   refine gk (vb (y5.2 == ((-1) : Int))) 49 (.bin .eql false 48 (ki (-1))) 47 true rfl (fun hg => (.cons hg (.cons rfl .nil))) ?_
   refine pa 50 47 49 rfl rfl ?_
   refine rk 1 (.d4 (.k4 (.i 51 (vb ((((y2.1 == (0 : Int)) && y13) && (y5.1 == (0 : Int))) && (y5.2 == ((-1) : Int)))) .n))) ?_
   refine gj (vi y8.1) 52 (.mov 6) 51 true rfl ?_
   refine gk (vb (y8.1 == (0 : Int))) 53 (.bin .eql false 52 (ki 0)) 51 true rfl (fun hg => (.cons hg (.cons rfl .nil))) ?_
   refine pa 54 51 53 rfl rfl ?_
   refine rk 1 (.d3 (.k (.d (.k2 (.i 55 (vb (((((y2.1 == (0 : Int)) && y13) && (y5.1 == (0 : Int))) && (y5.2 == ((-1) : Int))) && (y8.1 == (0 : Int)))) .n))))) ?_
   refine gj (vi y8.2) 56 (.mov 5) 55 true rfl ?_
   refine gk (vb (y8.2 == (130 : Int))) 57 (.bin .eql false 56 (ki 130)) 55 true rfl (fun hg => (.cons hg (.cons rfl .nil))) ?_
   refine pa 58 55 57 rfl rfl ?_
   refine rk 1 (.d4 (.k2 (.i 59 (vb ((((((y2.1 == (0 : Int)) && y13) && (y5.1 == (0 : Int))) && (y5.2 == ((-1) : Int))) && (y8.1 == (0 : Int))) && (y8.2 == (130 : Int)))) .n))) ?_
   refine gj (vi v12) 60 (.mov 8) 59 true rfl ?_
   refine gk (vb (v12 == (0 : Int))) 61 (.bin .eql false 60 (ki 0)) 59 true rfl (fun hg => (.cons hg (.cons rfl .nil))) ?_
   refine pa 62 59 61 rfl rfl ?_
   refine rk 1 (.d3 (.k (.i 63 (vb (((((((y2.1 == (0 : Int)) && y13) && (y5.1 == (0 : Int))) && (y5.2 == ((-1) : Int))) && (y8.1 == (0 : Int))) && (y8.2 == (130 : Int))) && (v12 == (0 : Int)))) .n))) ?_
   refine gj .emp 64 (.mov 7) 63 true rfl ?_
   rcases Bool.eq_false_or_eq_true (((((((y2.1 == (0 : Int)) && y13) && (y5.1 == (0 : Int))) && (y5.2 == ((-1) : Int))) && (y8.1 == (0 : Int))) && (y8.2 == (130 : Int))) && (v12 == (0 : Int))) with c2 | c2
   ·have h := cond_t h c2
    refine RegJ.op (Op1.effk (v := .own 1 0 4) (ob' := [none, some (.row 1 [vi 0, vi 1, vi 2, vi (-1)])]) _ _ (cz (IG 65 (.bslice 1 (.p (.int .i64 0)) 4 [(0, (ki 0)), (1, (ki 1)), (2, (ki 2)), (3, (ki (-1)))]) 63 true) (by kernel_rfl)) (congrArg some c2) (by kernel_rfl) (.cons rfl (.cons rfl (.cons rfl (.cons rfl .nil))))) ?_
    refine RegJ.sees (Sees.freeze 1 (fr' := [(7, .emp), (63, vb (((((((y2.1 == (0 : Int)) && y13) && (y5.1 == (0 : Int))) && (y5.2 == ((-1) : Int))) && (y8.1 == (0 : Int))) && (y8.2 == (130 : Int))) && (v12 == (0 : Int)))), (64, .cond (((((((y2.1 == (0 : Int)) && y13) && (y5.1 == (0 : Int))) && (y5.2 == ((-1) : Int))) && (y8.1 == (0 : Int))) && (y8.2 == (130 : Int))) && (v12 == (0 : Int))) (.emp)), (65, eS 1 vi ([0, 1, 2, (-1)] : List Int))]) (ob' := [none, none]) rfl (frzs_cons rfl (frzs_cons rfl (frzs_cons rfl (frzs_cons rfl frzs_nil)))) (.cons (.refl _) (.cons (.refl _) (.cons (.refl _) (.cons (.own rfl (Nat.le_of_ble_eq_true rfl)) .nil)))) rfl) ?_
    refine bK h fun y14 hy14 h => ?_
    refine RegJ.op (Op1.call (y' := vb y14) (obx := []) (oby := []) (ob2 := [none, none]) _ _ (cy (IG 66 (.call 41 [64, 65]) 63 true)) (congrArg some c2) (FnL.co (.cons .sl (.cons .same .nil)) (agraffebase_Ints_ok n ([] : List Int) ([0, 1, 2, (-1)] : List Int) y14 hy14)) [] (by kernel_rfl) (.cons rfl (.cons c2 (.cons rfl .nil))) (by kernel_rfl) (by kernel_rfl) ObsRen.nil (by kernel_rfl) ObsRen.nil (by kernel_rfl)) ?_
    refine pa 67 63 66 rfl rfl ?_
    refine jk 1 (.i 0 (vb ((((((((y2.1 == (0 : Int)) && y13) && (y5.1 == (0 : Int))) && (y5.2 == ((-1) : Int))) && (y8.1 == (0 : Int))) && (y8.2 == (130 : Int))) && (v12 == (0 : Int))) && y14)) .n) ?_
    exact Vs.intro (sc [] (by decide) (by kernel_rfl) ObRen.nil rfl rfl) ⟨((((((((y2.1 == (0 : Int)) && y13) && (y5.1 == (0 : Int))) && (y5.2 == ((-1) : Int))) && (y8.1 == (0 : Int))) && (y8.2 == (130 : Int))) && (v12 == (0 : Int))) && y14), rfl, h⟩
   have h := cond_f h c2
   refine RegJ.op (Op1.skipc (g := ((((((y2.1 == (0 : Int)) && y13) && (y5.1 == (0 : Int))) && (y5.2 == ((-1) : Int))) && (y8.1 == (0 : Int))) && (y8.2 == (130 : Int))) && (v12 == (0 : Int))) (v := vb false) (by kernel_rfl : compAt _ _ _ _ = some ⟨(some 65), .bslice 1 (.p (.int .i64 0)) 4 [(0, (ki 0)), (1, (ki 1)), (2, (ki 2)), (3, (ki (-1)))], (some (63, true)), [(ki 0), (ki 1), (ki 2), (ki (-1))], 0⟩) rfl c2) ?_
   refine RegJ.op (Op1.skipc (g := ((((((y2.1 == (0 : Int)) && y13) && (y5.1 == (0 : Int))) && (y5.2 == ((-1) : Int))) && (y8.1 == (0 : Int))) && (y8.2 == (130 : Int))) && (v12 == (0 : Int))) (v := vb false) (by kernel_rfl : compAt _ _ _ _ = some ⟨(some 66), .call 41 [64, 65], (some (63, true)), [(.c (.fn (.func 41) [] [])), 64, 65], 2⟩) rfl c2) ?_
   refine pa 67 63 66 rfl rfl ?_
   refine jq 1 [(0, vb ((((((((y2.1 == (0 : Int)) && y13) && (y5.1 == (0 : Int))) && (y5.2 == ((-1) : Int))) && (y8.1 == (0 : Int))) && (y8.2 == (130 : Int))) && (v12 == (0 : Int))) && false))] [none] ?_
   exact Vs.intro (sc [] (by decide) (by kernel_rfl) ObRen.nil rfl rfl) ⟨((((((((y2.1 == (0 : Int)) && y13) && (y5.1 == (0 : Int))) && (y5.2 == ((-1) : Int))) && (y8.1 == (0 : Int))) && (y8.2 == (130 : Int))) && (v12 == (0 : Int))) && false), rfl, h⟩
  have h := cond_f h c1
  refine RegJ.op (Op1.skipc (g := (y2.1 == (0 : Int))) (v := vb false) (by kernel_rfl : compAt _ _ _ _ = some ⟨(some 40), .bslice 1 (.p (.int .i64 0)) 3 [(0, (ki 0)), (1, (ki 30)), (2, (ki 50))], (some (38, true)), [(ki 0), (ki 30), (ki 50)], 0⟩) rfl c1) ?_
  refine RegJ.op (Op1.skipc (g := (y2.1 == (0 : Int))) (v := vb false) (by kernel_rfl : compAt _ _ _ _ = some ⟨(some 41), .call 41 [39, 40], (some (38, true)), [(.c (.fn (.func 41) [] [])), 39, 40], 2⟩) rfl c1) ?_
  refine pa 42 38 41 rfl rfl ?_
  refine rn 1 [(3, vi y5.2), (4, vi y5.1), (5, vi y8.2), (6, vi y8.1), (7, .emp), (8, vi v12), (43, vb ((y2.1 == (0 : Int)) && false))] [] ?_
  refine gj (vi y5.1) 44 (.mov 4) 43 true rfl ?_
  refine gk (vb (y5.1 == (0 : Int))) 45 (.bin .eql false 44 (ki 0)) 43 true rfl (fun hg => (.cons hg (.cons rfl .nil))) ?_
  refine pa 46 43 45 rfl rfl ?_
  refine rk 1 (.d3 (.k (.d (.k4 (.i 47 (vb (((y2.1 == (0 : Int)) && false) && (y5.1 == (0 : Int)))) .n))))) ?_
  refine gj (vi y5.2) 48 (.mov 3) 47 true rfl ?_
  refine gk (vb (y5.2 == ((-1) : Int))) 49 (.bin .eql false 48 (ki (-1))) 47 true rfl (fun hg => (.cons hg (.cons rfl .nil))) ?_
  refine pa 50 47 49 rfl rfl ?_
  refine rk 1 (.d4 (.k4 (.i 51 (vb ((((y2.1 == (0 : Int)) && false) && (y5.1 == (0 : Int))) && (y5.2 == ((-1) : Int)))) .n))) ?_
  refine gj (vi y8.1) 52 (.mov 6) 51 true rfl ?_
  refine gk (vb (y8.1 == (0 : Int))) 53 (.bin .eql false 52 (ki 0)) 51 true rfl (fun hg => (.cons hg (.cons rfl .nil))) ?_
  refine pa 54 51 53 rfl rfl ?_
  refine rk 1 (.d3 (.k (.d (.k2 (.i 55 (vb (((((y2.1 == (0 : Int)) && false) && (y5.1 == (0 : Int))) && (y5.2 == ((-1) : Int))) && (y8.1 == (0 : Int)))) .n))))) ?_
  refine gj (vi y8.2) 56 (.mov 5) 55 true rfl ?_
  refine gk (vb (y8.2 == (130 : Int))) 57 (.bin .eql false 56 (ki 130)) 55 true rfl (fun hg => (.cons hg (.cons rfl .nil))) ?_
  refine pa 58 55 57 rfl rfl ?_
  refine rk 1 (.d4 (.k2 (.i 59 (vb ((((((y2.1 == (0 : Int)) && false) && (y5.1 == (0 : Int))) && (y5.2 == ((-1) : Int))) && (y8.1 == (0 : Int))) && (y8.2 == (130 : Int)))) .n))) ?_
  refine gj (vi v12) 60 (.mov 8) 59 true rfl ?_
  refine gk (vb (v12 == (0 : Int))) 61 (.bin .eql false 60 (ki 0)) 59 true rfl (fun hg => (.cons hg (.cons rfl .nil))) ?_
  refine pa 62 59 61 rfl rfl ?_
  refine rk 1 (.d3 (.k (.i 63 (vb (((((((y2.1 == (0 : Int)) && false) && (y5.1 == (0 : Int))) && (y5.2 == ((-1) : Int))) && (y8.1 == (0 : Int))) && (y8.2 == (130 : Int))) && (v12 == (0 : Int)))) .n))) ?_
  refine gj .emp 64 (.mov 7) 63 true rfl ?_
  rcases Bool.eq_false_or_eq_true (((((((y2.1 == (0 : Int)) && false) && (y5.1 == (0 : Int))) && (y5.2 == ((-1) : Int))) && (y8.1 == (0 : Int))) && (y8.2 == (130 : Int))) && (v12 == (0 : Int))) with c3 | c3
  ·have h := cond_t h c3
   refine RegJ.op (Op1.effk (v := .own 0 0 4) (ob' := [some (.row 1 [vi 0, vi 1, vi 2, vi (-1)])]) _ _ (cz (IG 65 (.bslice 1 (.p (.int .i64 0)) 4 [(0, (ki 0)), (1, (ki 1)), (2, (ki 2)), (3, (ki (-1)))]) 63 true) (by kernel_rfl)) (congrArg some c3) (by kernel_rfl) (.cons rfl (.cons rfl (.cons rfl (.cons rfl .nil))))) ?_
   refine RegJ.sees (Sees.freeze 0 (fr' := [(7, .emp), (63, vb (((((((y2.1 == (0 : Int)) && false) && (y5.1 == (0 : Int))) && (y5.2 == ((-1) : Int))) && (y8.1 == (0 : Int))) && (y8.2 == (130 : Int))) && (v12 == (0 : Int)))), (64, .cond (((((((y2.1 == (0 : Int)) && false) && (y5.1 == (0 : Int))) && (y5.2 == ((-1) : Int))) && (y8.1 == (0 : Int))) && (y8.2 == (130 : Int))) && (v12 == (0 : Int))) (.emp)), (65, eS 1 vi ([0, 1, 2, (-1)] : List Int))]) (ob' := [none]) rfl (frzs_cons rfl (frzs_cons rfl (frzs_cons rfl (frzs_cons rfl frzs_nil)))) (.cons (.refl _) (.cons (.refl _) (.cons (.refl _) (.cons (.own rfl (Nat.le_of_ble_eq_true rfl)) .nil)))) rfl) ?_
   refine bK h fun y15 hy15 h => ?_
   refine RegJ.op (Op1.call (y' := vb y15) (obx := []) (oby := []) (ob2 := [none]) _ _ (cy (IG 66 (.call 41 [64, 65]) 63 true)) (congrArg some c3) (FnL.co (.cons .sl (.cons .same .nil)) (agraffebase_Ints_ok n ([] : List Int) ([0, 1, 2, (-1)] : List Int) y15 hy15)) [] (by kernel_rfl) (.cons rfl (.cons c3 (.cons rfl .nil))) (by kernel_rfl) (by kernel_rfl) ObsRen.nil (by kernel_rfl) ObsRen.nil (by kernel_rfl)) ?_
   refine pa 67 63 66 rfl rfl ?_
   refine jk 1 (.i 0 (vb ((((((((y2.1 == (0 : Int)) && false) && (y5.1 == (0 : Int))) && (y5.2 == ((-1) : Int))) && (y8.1 == (0 : Int))) && (y8.2 == (130 : Int))) && (v12 == (0 : Int))) && y15)) .n) ?_
   exact Vs.intro (sc [] (by decide) (by kernel_rfl) ObRen.nil rfl rfl) ⟨((((((((y2.1 == (0 : Int)) && false) && (y5.1 == (0 : Int))) && (y5.2 == ((-1) : Int))) && (y8.1 == (0 : Int))) && (y8.2 == (130 : Int))) && (v12 == (0 : Int))) && y15), rfl, h⟩
  have h := cond_f h c3
  refine RegJ.op (Op1.skipc (g := ((((((y2.1 == (0 : Int)) && false) && (y5.1 == (0 : Int))) && (y5.2 == ((-1) : Int))) && (y8.1 == (0 : Int))) && (y8.2 == (130 : Int))) && (v12 == (0 : Int))) (v := vb false) (by kernel_rfl : compAt _ _ _ _ = some ⟨(some 65), .bslice 1 (.p (.int .i64 0)) 4 [(0, (ki 0)), (1, (ki 1)), (2, (ki 2)), (3, (ki (-1)))], (some (63, true)), [(ki 0), (ki 1), (ki 2), (ki (-1))], 0⟩) rfl c3) ?_
  refine RegJ.op (Op1.skipc (g := ((((((y2.1 == (0 : Int)) && false) && (y5.1 == (0 : Int))) && (y5.2 == ((-1) : Int))) && (y8.1 == (0 : Int))) && (y8.2 == (130 : Int))) && (v12 == (0 : Int))) (v := vb false) (by kernel_rfl : compAt _ _ _ _ = some ⟨(some 66), .call 41 [64, 65], (some (63, true)), [(.c (.fn (.func 41) [] [])), 64, 65], 2⟩) rfl c3) ?_
  refine pa 67 63 66 rfl rfl ?_
  refine jq 1 [(0, vb ((((((((y2.1 == (0 : Int)) && false) && (y5.1 == (0 : Int))) && (y5.2 == ((-1) : Int))) && (y8.1 == (0 : Int))) && (y8.2 == (130 : Int))) && (v12 == (0 : Int))) && false))] [] ?_
  exact Vs.intro Sees.refl ⟨((((((((y2.1 == (0 : Int)) && false) && (y5.1 == (0 : Int))) && (y5.2 == ((-1) : Int))) && (y8.1 == (0 : Int))) && (y8.2 == (130 : Int))) && (v12 == (0 : Int))) && false), rfl, h⟩
 ·rintro v17 h
  refine TriE.seqK h (fun (v21 : Bool) => St.mk [(0, vb v21)] []) ?_ ?_
  ·rintro v21 h
   refine q3 ?_
   have h := si h
   subst h
   exact DoneS.ret Sees.refl rfl rfl
  intro k4 h
  refine q6 ?_
  refine rk 3 (.k (.d (.k4 (.k2 (.i 38 (vb (y2.1 == (0 : Int))) .n))))) ?_
  refine gj (eS 1 vi y2.2) 39 (.mov 1) 38 true rfl ?_
  rcases Bool.eq_false_or_eq_true ((y2.1 == (0 : Int))) with c4 | c4
  ·have h := cond_t h c4
   refine RegJ.op (Op1.effk (v := .own 1 0 3) (ob' := [some (.row 1 (List.map vi v17)), some (.row 1 [vi 0, vi 30, vi 50])]) _ _ (cy (IG 40 (.bslice 1 (.p (.int .i64 0)) 3 [(0, (ki 0)), (1, (ki 30)), (2, (ki 50))]) 38 true)) (congrArg some c4) (by kernel_rfl) (.cons rfl (.cons rfl (.cons rfl .nil)))) ?_
   refine RegJ.sees (Sees.freeze 1 (fr' := [(1, eS 1 vi y2.2), (3, vi y5.2), (4, vi y5.1), (5, vi y8.2), (6, vi y8.1), (7, .own 0 0 ((List.replicate ((IntKind.u64.wrap ((IntKind.u64.wrap ((([(-1)] : List Int).length : Nat) : Int)) * (IntKind.u64.wrap ((([(Window.mk 0 2), (Window.mk 0 2), (Window.mk 1 3), (Window.mk 2 3)] : List Window).length : Nat) : Int)))).toNat) (0 : Int)).length)), (8, vi 0), (38, vb (y2.1 == (0 : Int))), (39, .cond (y2.1 == (0 : Int)) (eS 1 vi y2.2)), (40, eS 1 vi ([0, 30, 50] : List Int))]) (ob' := [some (.row 1 (List.map vi v17)), none]) rfl (frzs_cons rfl (frzs_cons rfl (frzs_cons rfl frzs_nil))) (.cons (.refl _) (.cons (.refl _) (.cons (.refl _) (.cons (.refl _) (.cons (.refl _) (.cons (.refl _) (.cons (.refl _) (.cons (.refl _) (.cons (.refl _) (.cons (.own rfl (Nat.le_of_ble_eq_true rfl)) .nil)))))))))) rfl) ?_
   refine bK h fun y18 hy18 h => ?_
   refine RegJ.op (Op1.call (y' := vb y18) (obx := []) (oby := []) (ob2 := [some (.row 1 (List.map vi v17)), none]) _ _ (cy (IG 41 (.call 41 [39, 40]) 38 true)) (congrArg some c4) (agraffebase_Ints_ok n y2.2 ([0, 30, 50] : List Int) y18 hy18) [] (by kernel_rfl) (.cons rfl (.cons c4 (.cons rfl .nil))) (by kernel_rfl) (by kernel_rfl) ObsRen.nil (by kernel_rfl) ObsRen.nil (by kernel_rfl)) ?_
   refine pa 42 38 41 rfl rfl ?_
   refine rk 1 (.d3 (.k4 (.k2 (.i 43 (vb ((y2.1 == (0 : Int)) && y18)) .n)))) ?_
   refine gj (vi y5.1) 44 (.mov 4) 43 true rfl ?_
   refine gk (vb (y5.1 == (0 : Int))) 45 (.bin .eql false 44 (ki 0)) 43 true rfl (fun hg => (.cons hg (.cons rfl .nil))) ?_
   refine pa 46 43 45 rfl rfl ?_
   refine rk 1 (.d3 (.k (.d (.k4 (.i 47 (vb (((y2.1 == (0 : Int)) && y18) && (y5.1 == (0 : Int)))) .n))))) ?_
   refine gj (vi y5.2) 48 (.mov 3) 47 true rfl ?_
   refine gk (vb (y5.2 == ((-1) : Int))) 49 (.bin .eql false 48 (ki (-1))) 47 true rfl (fun hg => (.cons hg (.cons rfl .nil))) ?_
   refine pa 50 47 49 rfl rfl ?_
   refine rk 1 (.d4 (.k4 (.i 51 (vb ((((y2.1 == (0 : Int)) && y18) && (y5.1 == (0 : Int))) && (y5.2 == ((-1) : Int)))) .n))) ?_
   refine gj (vi y8.1) 52 (.mov 6) 51 true rfl ?_
   refine gk (vb (y8.1 == (0 : Int))) 53 (.bin .eql false 52 (ki 0)) 51 true rfl (fun hg => (.cons hg (.cons rfl .nil))) ?_
   refine pa 54 51 53 rfl rfl ?_
   refine rk 1 (.d3 (.k (.d (.k2 (.i 55 (vb (((((y2.1 == (0 : Int)) && y18) && (y5.1 == (0 : Int))) && (y5.2 == ((-1) : Int))) && (y8.1 == (0 : Int)))) .n))))) ?_
   refine gj (vi y8.2) 56 (.mov 5) 55 true rfl ?_
   refine gk (vb (y8.2 == (130 : Int))) 57 (.bin .eql false 56 (ki 130)) 55 true rfl (fun hg => (.cons hg (.cons rfl .nil))) ?_
   refine pa 58 55 57 rfl rfl ?_
   refine rk 1 (.d4 (.k2 (.i 59 (vb ((((((y2.1 == (0 : Int)) && y18) && (y5.1 == (0 : Int))) && (y5.2 == ((-1) : Int))) && (y8.1 == (0 : Int))) && (y8.2 == (130 : Int)))) .n))) ?_
   refine gj (vi 0) 60 (.mov 8) 59 true rfl ?_
   refine gk (vb true) 61 (.bin .eql false 60 (ki 0)) 59 true rfl (fun hg => (.cons hg (.cons rfl .nil))) ?_
   refine pa 62 59 61 rfl rfl ?_
   refine rk 1 (.d3 (.k (.i 63 (vb (((((((y2.1 == (0 : Int)) && y18) && (y5.1 == (0 : Int))) && (y5.2 == ((-1) : Int))) && (y8.1 == (0 : Int))) && (y8.2 == (130 : Int))) && true)) .n))) ?_
   refine gj (.own 0 0 ((List.replicate ((IntKind.u64.wrap ((IntKind.u64.wrap ((([(-1)] : List Int).length : Nat) : Int)) * (IntKind.u64.wrap ((([(Window.mk 0 2), (Window.mk 0 2), (Window.mk 1 3), (Window.mk 2 3)] : List Window).length : Nat) : Int)))).toNat) (0 : Int)).length)) 64 (.mov 7) 63 true rfl ?_
   rcases Bool.eq_false_or_eq_true (((((((y2.1 == (0 : Int)) && y18) && (y5.1 == (0 : Int))) && (y5.2 == ((-1) : Int))) && (y8.1 == (0 : Int))) && (y8.2 == (130 : Int))) && true) with c5 | c5
   ·have h := cond_t h c5
    refine RegJ.op (Op1.effk (v := .own 2 0 4) (ob' := [some (.row 1 (List.map vi v17)), none, some (.row 1 [vi 0, vi 1, vi 2, vi (-1)])]) _ _ (cz (IG 65 (.bslice 1 (.p (.int .i64 0)) 4 [(0, (ki 0)), (1, (ki 1)), (2, (ki 2)), (3, (ki (-1)))]) 63 true) (by kernel_rfl)) (congrArg some c5) (by kernel_rfl) (.cons rfl (.cons rfl (.cons rfl (.cons rfl .nil))))) ?_
    refine RegJ.sees (Sees.freeze 2 (fr' := [(7, .own 0 0 ((List.replicate ((IntKind.u64.wrap ((IntKind.u64.wrap ((([(-1)] : List Int).length : Nat) : Int)) * (IntKind.u64.wrap ((([(Window.mk 0 2), (Window.mk 0 2), (Window.mk 1 3), (Window.mk 2 3)] : List Window).length : Nat) : Int)))).toNat) (0 : Int)).length)), (63, vb (((((((y2.1 == (0 : Int)) && y18) && (y5.1 == (0 : Int))) && (y5.2 == ((-1) : Int))) && (y8.1 == (0 : Int))) && (y8.2 == (130 : Int))) && true)), (64, .cond (((((((y2.1 == (0 : Int)) && y18) && (y5.1 == (0 : Int))) && (y5.2 == ((-1) : Int))) && (y8.1 == (0 : Int))) && (y8.2 == (130 : Int))) && true) (.own 0 0 ((List.replicate ((IntKind.u64.wrap ((IntKind.u64.wrap ((([(-1)] : List Int).length : Nat) : Int)) * (IntKind.u64.wrap ((([(Window.mk 0 2), (Window.mk 0 2), (Window.mk 1 3), (Window.mk 2 3)] : List Window).length : Nat) : Int)))).toNat) (0 : Int)).length))), (65, eS 1 vi ([0, 1, 2, (-1)] : List Int))]) (ob' := [some (.row 1 (List.map vi v17)), none, none]) rfl (frzs_cons rfl (frzs_cons rfl (frzs_cons rfl (frzs_cons rfl frzs_nil)))) (.cons (.refl _) (.cons (.refl _) (.cons (.refl _) (.cons (.own rfl (Nat.le_of_ble_eq_true rfl)) .nil)))) rfl) ?_
    refine bK h fun y19 hy19 h => ?_
    refine RegJ.op (Op1.call (y' := vb y19) (obx := [some (.row 1 (List.map vi v17))]) (oby := [some (.row 1 (List.map vi v17))]) (ob2 := [some (.row 1 (List.map vi v17)), none, none]) _ _ (cy (IG 66 (.call 41 [64, 65]) 63 true)) (congrArg some c5) (agraffebase_Ints_2_ok n v17 0 ((List.replicate ((IntKind.u64.wrap ((IntKind.u64.wrap ((([(-1)] : List Int).length : Nat) : Int)) * (IntKind.u64.wrap ((([(Window.mk 0 2), (Window.mk 0 2), (Window.mk 1 3), (Window.mk 2 3)] : List Window).length : Nat) : Int)))).toNat) (0 : Int)).length) ([0, 1, 2, (-1)] : List Int) y19 hy19) [0] (by kernel_rfl) (.cons rfl (.cons c5 (.cons rfl .nil))) (by kernel_rfl) (by kernel_rfl) (.same (row_ren vi_frz _ _ _) .nil) (by kernel_rfl) (.same (row_ren vi_frz _ _ _) .nil) (by kernel_rfl)) ?_
    refine pa 67 63 66 rfl rfl ?_
    refine jk 1 (.i 0 (vb ((((((((y2.1 == (0 : Int)) && y18) && (y5.1 == (0 : Int))) && (y5.2 == ((-1) : Int))) && (y8.1 == (0 : Int))) && (y8.2 == (130 : Int))) && true) && y19)) .n) ?_
    exact Vs.intro (sc [] (by decide) (by kernel_rfl) ObRen.nil rfl rfl) ⟨((((((((y2.1 == (0 : Int)) && y18) && (y5.1 == (0 : Int))) && (y5.2 == ((-1) : Int))) && (y8.1 == (0 : Int))) && (y8.2 == (130 : Int))) && true) && y19), rfl, h⟩
   have h := cond_f h c5
   refine RegJ.op (Op1.skipc (g := ((((((y2.1 == (0 : Int)) && y18) && (y5.1 == (0 : Int))) && (y5.2 == ((-1) : Int))) && (y8.1 == (0 : Int))) && (y8.2 == (130 : Int))) && true) (v := vb false) (by kernel_rfl : compAt _ _ _ _ = some ⟨(some 65), .bslice 1 (.p (.int .i64 0)) 4 [(0, (ki 0)), (1, (ki 1)), (2, (ki 2)), (3, (ki (-1)))], (some (63, true)), [(ki 0), (ki 1), (ki 2), (ki (-1))], 0⟩) rfl c5) ?_
   refine RegJ.op (Op1.skipc (g := ((((((y2.1 == (0 : Int)) && y18) && (y5.1 == (0 : Int))) && (y5.2 == ((-1) : Int))) && (y8.1 == (0 : Int))) && (y8.2 == (130 : Int))) && true) (v := vb false) (by kernel_rfl : compAt _ _ _ _ = some ⟨(some 66), .call 41 [64, 65], (some (63, true)), [(.c (.fn (.func 41) [] [])), 64, 65], 2⟩) rfl c5) ?_
   refine pa 67 63 66 rfl rfl ?_
   refine jq 1 [(0, vb ((((((((y2.1 == (0 : Int)) && y18) && (y5.1 == (0 : Int))) && (y5.2 == ((-1) : Int))) && (y8.1 == (0 : Int))) && (y8.2 == (130 : Int))) && true) && false))] [some (.row 1 (List.map vi v17)), none] ?_
   exact Vs.intro (sc [] (by decide) (by kernel_rfl) ObRen.nil rfl rfl) ⟨((((((((y2.1 == (0 : Int)) && y18) && (y5.1 == (0 : Int))) && (y5.2 == ((-1) : Int))) && (y8.1 == (0 : Int))) && (y8.2 == (130 : Int))) && true) && false), rfl, h⟩
  have h := cond_f h c4
  refine RegJ.op (Op1.skipc (g := (y2.1 == (0 : Int))) (v := vb false) (by kernel_rfl : compAt _ _ _ _ = some ⟨(some 40), .bslice 1 (.p (.int .i64 0)) 3 [(0, (ki 0)), (1, (ki 30)), (2, (ki 50))], (some (38, true)), [(ki 0), (ki 30), (ki 50)], 0⟩) rfl c4) ?_
  refine RegJ.op (Op1.skipc (g := (y2.1 == (0 : Int))) (v := vb false) (by kernel_rfl : compAt _ _ _ _ = some ⟨(some 41), .call 41 [39, 40], (some (38, true)), [(.c (.fn (.func 41) [] [])), 39, 40], 2⟩) rfl c4) ?_
  refine pa 42 38 41 rfl rfl ?_
  refine rn 1 [(3, vi y5.2), (4, vi y5.1), (5, vi y8.2), (6, vi y8.1), (7, .own 0 0 ((List.replicate ((IntKind.u64.wrap ((IntKind.u64.wrap ((([(-1)] : List Int).length : Nat) : Int)) * (IntKind.u64.wrap ((([(Window.mk 0 2), (Window.mk 0 2), (Window.mk 1 3), (Window.mk 2 3)] : List Window).length : Nat) : Int)))).toNat) (0 : Int)).length)), (8, vi 0), (43, vb ((y2.1 == (0 : Int)) && false))] [some (.row 1 (List.map vi v17))] ?_
  refine gj (vi y5.1) 44 (.mov 4) 43 true rfl ?_
  refine gk (vb (y5.1 == (0 : Int))) 45 (.bin .eql false 44 (ki 0)) 43 true rfl (fun hg => (.cons hg (.cons rfl .nil))) ?_
  refine pa 46 43 45 rfl rfl ?_
  refine rk 1 (.d3 (.k (.d (.k4 (.i 47 (vb (((y2.1 == (0 : Int)) && false) && (y5.1 == (0 : Int)))) .n))))) ?_
  refine gj (vi y5.2) 48 (.mov 3) 47 true rfl ?_
  refine gk (vb (y5.2 == ((-1) : Int))) 49 (.bin .eql false 48 (ki (-1))) 47 true rfl (fun hg => (.cons hg (.cons rfl .nil))) ?_
  refine pa 50 47 49 rfl rfl ?_
  refine rk 1 (.d4 (.k4 (.i 51 (vb ((((y2.1 == (0 : Int)) && false) && (y5.1 == (0 : Int))) && (y5.2 == ((-1) : Int)))) .n))) ?_
  refine gj (vi y8.1) 52 (.mov 6) 51 true rfl ?_
  refine gk (vb (y8.1 == (0 : Int))) 53 (.bin .eql false 52 (ki 0)) 51 true rfl (fun hg => (.cons hg (.cons rfl .nil))) ?_
  refine pa 54 51 53 rfl rfl ?_
  refine rk 1 (.d3 (.k (.d (.k2 (.i 55 (vb (((((y2.1 == (0 : Int)) && false) && (y5.1 == (0 : Int))) && (y5.2 == ((-1) : Int))) && (y8.1 == (0 : Int)))) .n))))) ?_
  refine gj (vi y8.2) 56 (.mov 5) 55 true rfl ?_
  refine gk (vb (y8.2 == (130 : Int))) 57 (.bin .eql false 56 (ki 130)) 55 true rfl (fun hg => (.cons hg (.cons rfl .nil))) ?_
  refine pa 58 55 57 rfl rfl ?_
  refine rk 1 (.d4 (.k2 (.i 59 (vb ((((((y2.1 == (0 : Int)) && false) && (y5.1 == (0 : Int))) && (y5.2 == ((-1) : Int))) && (y8.1 == (0 : Int))) && (y8.2 == (130 : Int)))) .n))) ?_
  refine gj (vi 0) 60 (.mov 8) 59 true rfl ?_
  refine gk (vb true) 61 (.bin .eql false 60 (ki 0)) 59 true rfl (fun hg => (.cons hg (.cons rfl .nil))) ?_
  refine pa 62 59 61 rfl rfl ?_
  refine rk 1 (.d3 (.k (.i 63 (vb (((((((y2.1 == (0 : Int)) && false) && (y5.1 == (0 : Int))) && (y5.2 == ((-1) : Int))) && (y8.1 == (0 : Int))) && (y8.2 == (130 : Int))) && true)) .n))) ?_
  refine gj (.own 0 0 ((List.replicate ((IntKind.u64.wrap ((IntKind.u64.wrap ((([(-1)] : List Int).length : Nat) : Int)) * (IntKind.u64.wrap ((([(Window.mk 0 2), (Window.mk 0 2), (Window.mk 1 3), (Window.mk 2 3)] : List Window).length : Nat) : Int)))).toNat) (0 : Int)).length)) 64 (.mov 7) 63 true rfl ?_
  rcases Bool.eq_false_or_eq_true (((((((y2.1 == (0 : Int)) && false) && (y5.1 == (0 : Int))) && (y5.2 == ((-1) : Int))) && (y8.1 == (0 : Int))) && (y8.2 == (130 : Int))) && true) with c6 | c6
  ·have h := cond_t h c6
   refine RegJ.op (Op1.effk (v := .own 1 0 4) (ob' := [some (.row 1 (List.map vi v17)), some (.row 1 [vi 0, vi 1, vi 2, vi (-1)])]) _ _ (cz (IG 65 (.bslice 1 (.p (.int .i64 0)) 4 [(0, (ki 0)), (1, (ki 1)), (2, (ki 2)), (3, (ki (-1)))]) 63 true) (by kernel_rfl)) (congrArg some c6) (by kernel_rfl) (.cons rfl (.cons rfl (.cons rfl (.cons rfl .nil))))) ?_
   refine RegJ.sees (Sees.freeze 1 (fr' := [(7, .own 0 0 ((List.replicate ((IntKind.u64.wrap ((IntKind.u64.wrap ((([(-1)] : List Int).length : Nat) : Int)) * (IntKind.u64.wrap ((([(Window.mk 0 2), (Window.mk 0 2), (Window.mk 1 3), (Window.mk 2 3)] : List Window).length : Nat) : Int)))).toNat) (0 : Int)).length)), (63, vb (((((((y2.1 == (0 : Int)) && false) && (y5.1 == (0 : Int))) && (y5.2 == ((-1) : Int))) && (y8.1 == (0 : Int))) && (y8.2 == (130 : Int))) && true)), (64, .cond (((((((y2.1 == (0 : Int)) && false) && (y5.1 == (0 : Int))) && (y5.2 == ((-1) : Int))) && (y8.1 == (0 : Int))) && (y8.2 == (130 : Int))) && true) (.own 0 0 ((List.replicate ((IntKind.u64.wrap ((IntKind.u64.wrap ((([(-1)] : List Int).length : Nat) : Int)) * (IntKind.u64.wrap ((([(Window.mk 0 2), (Window.mk 0 2), (Window.mk 1 3), (Window.mk 2 3)] : List Window).length : Nat) : Int)))).toNat) (0 : Int)).length))), (65, eS 1 vi ([0, 1, 2, (-1)] : List Int))]) (ob' := [some (.row 1 (List.map vi v17)), none]) rfl (frzs_cons rfl (frzs_cons rfl (frzs_cons rfl (frzs_cons rfl frzs_nil)))) (.cons (.refl _) (.cons (.refl _) (.cons (.refl _) (.cons (.own rfl (Nat.le_of_ble_eq_true rfl)) .nil)))) rfl) ?_
   refine bK h fun y20 hy20 h => ?_
   refine RegJ.op (Op1.call (y' := vb y20) (obx := [some (.row 1 (List.map vi v17))]) (oby := [some (.row 1 (List.map vi v17))]) (ob2 := [some (.row 1 (List.map vi v17)), none]) _ _ (cy (IG 66 (.call 41 [64, 65]) 63 true)) (congrArg some c6) (agraffebase_Ints_2_ok n v17 0 ((List.replicate ((IntKind.u64.wrap ((IntKind.u64.wrap ((([(-1)] : List Int).length : Nat) : Int)) * (IntKind.u64.wrap ((([(Window.mk 0 2), (Window.mk 0 2), (Window.mk 1 3), (Window.mk 2 3)] : List Window).length : Nat) : Int)))).toNat) (0 : Int)).length) ([0, 1, 2, (-1)] : List Int) y20 hy20) [0] (by kernel_rfl) (.cons rfl (.cons c6 (.cons rfl .nil))) (by kernel_rfl) (by kernel_rfl) (.same (row_ren vi_frz _ _ _) .nil) (by kernel_rfl) (.same (row_ren vi_frz _ _ _) .nil) (by kernel_rfl)) ?_
   refine pa 67 63 66 rfl rfl ?_
   refine jk 1 (.i 0 (vb ((((((((y2.1 == (0 : Int)) && false) && (y5.1 == (0 : Int))) && (y5.2 == ((-1) : Int))) && (y8.1 == (0 : Int))) && (y8.2 == (130 : Int))) && true) && y20)) .n) ?_
   exact Vs.intro (sc [] (by decide) (by kernel_rfl) ObRen.nil rfl rfl) ⟨((((((((y2.1 == (0 : Int)) && false) && (y5.1 == (0 : Int))) && (y5.2 == ((-1) : Int))) && (y8.1 == (0 : Int))) && (y8.2 == (130 : Int))) && true) && y20), rfl, h⟩
  have h := cond_f h c6
  refine RegJ.op (Op1.skipc (g := ((((((y2.1 == (0 : Int)) && false) && (y5.1 == (0 : Int))) && (y5.2 == ((-1) : Int))) && (y8.1 == (0 : Int))) && (y8.2 == (130 : Int))) && true) (v := vb false) (by kernel_rfl : compAt _ _ _ _ = some ⟨(some 65), .bslice 1 (.p (.int .i64 0)) 4 [(0, (ki 0)), (1, (ki 1)), (2, (ki 2)), (3, (ki (-1)))], (some (63, true)), [(ki 0), (ki 1), (ki 2), (ki (-1))], 0⟩) rfl c6) ?_
  refine RegJ.op (Op1.skipc (g := ((((((y2.1 == (0 : Int)) && false) && (y5.1 == (0 : Int))) && (y5.2 == ((-1) : Int))) && (y8.1 == (0 : Int))) && (y8.2 == (130 : Int))) && true) (v := vb false) (by kernel_rfl : compAt _ _ _ _ = some ⟨(some 66), .call 41 [64, 65], (some (63, true)), [(.c (.fn (.func 41) [] [])), 64, 65], 2⟩) rfl c6) ?_
  refine pa 67 63 66 rfl rfl ?_
  refine jq 1 [(0, vb ((((((((y2.1 == (0 : Int)) && false) && (y5.1 == (0 : Int))) && (y5.2 == ((-1) : Int))) && (y8.1 == (0 : Int))) && (y8.2 == (130 : Int))) && true) && false))] [some (.row 1 (List.map vi v17))] ?_
  exact Vs.intro (sc [] (by decide) (by kernel_rfl) ObRen.nil rfl rfl) ⟨((((((((y2.1 == (0 : Int)) && false) && (y5.1 == (0 : Int))) && (y5.2 == ((-1) : Int))) && (y8.1 == (0 : Int))) && (y8.2 == (130 : Int))) && true) && false), rfl, h⟩
 intro k1 k3 h
 refine q6 ?_
 refine rko 5 (.k4 (.k2 (.i 32 (.own 0 0 4) .n))) [some (.row 2 [.agg [vi 0, vi 2], .agg [vi 0, vi 2], .agg [vi 1, vi 3], .agg [vi 2, vi 3]])] ?_
 refine RegJ.sees (Sees.freeze 0 (fr' := [(1, eS 1 vi y2.2), (2, vi y2.1), (3, vi y5.2), (4, vi y5.1), (5, vi y8.2), (6, vi y8.1), (32, eS 2 eWindow ([(Window.mk 0 2), (Window.mk 0 2), (Window.mk 1 3), (Window.mk 2 3)] : List Window))]) (ob' := [none]) rfl (frzs_cons rfl (frzs_cons rfl (frzs_cons rfl (frzs_cons rfl frzs_nil)))) (.cons (.refl _) (.cons (.refl _) (.cons (.refl _) (.cons (.refl _) (.cons (.refl _) (.cons (.refl _) (.cons (.own rfl (Nat.le_of_ble_eq_true rfl)) .nil))))))) rfl) ?_
 refine bK h fun y9 hy9 h => ?_
 rcases y9 with y9 | y9
 ·dsimp only at h
  refine jc 33 [32] (diary_Most_ok n ([(Window.mk 0 2), (Window.mk 0 2), (Window.mk 1 3), (Window.mk 2 3)] : List Window) (Sum.inl y9) hy9) ?_
  refine jk 5 (.d (.k4 (.k2 (.i 7 .emp (.i 8 (vi y9) .n))))) ?_
  exact Vs.intro (sc [] (by decide) (by kernel_rfl) ObRen.nil rfl rfl) (.inl ⟨y9, rfl, h⟩)
 dsimp only at h
 refine jco (.tup [.own 1 0 ((List.replicate ((IntKind.u64.wrap ((IntKind.u64.wrap ((([(-1)] : List Int).length : Nat) : Int)) * (IntKind.u64.wrap ((([(Window.mk 0 2), (Window.mk 0 2), (Window.mk 1 3), (Window.mk 2 3)] : List Window).length : Nat) : Int)))).toNat) (0 : Int)).length), vi 0]) 33 [32] (diary_Most_ok n ([(Window.mk 0 2), (Window.mk 0 2), (Window.mk 1 3), (Window.mk 2 3)] : List Window) (Sum.inr y9) hy9) [] rfl ObsRen.nil (.same (row_ren vi_frz _ _ _) .nil) rfl ?_
 refine jk 5 (.d (.k4 (.k2 (.i 7 (.own 1 0 ((List.replicate ((IntKind.u64.wrap ((IntKind.u64.wrap ((([(-1)] : List Int).length : Nat) : Int)) * (IntKind.u64.wrap ((([(Window.mk 0 2), (Window.mk 0 2), (Window.mk 1 3), (Window.mk 2 3)] : List Window).length : Nat) : Int)))).toNat) (0 : Int)).length)) (.i 8 (vi 0) .n))))) ?_
 exact Vs.intro (sc [1] (by decide) (by kernel_rfl) (obRen_row vi_frz rfl .nil) rfl rfl) (.inr ⟨y9, rfl, h⟩)
theorem agraffelaw09_short_ok (n : Nat) (a0 : List Str) (a1 : Int) (a2 : Int) (r : Bool) (h : agraffelaw09_short n a0 a1 a2 = some r) : FnL Try.prog 26 [eS 1 vt a0, vi a1, vi a2] [] (vb r) [] := by
 dsimp only [agraffelaw09_short] at h
 refine fo [6] Try.call26 Try.func26 rfl ?_
 refine sk .a ?_
 refine TriE.seqK h (fun (_ : Unit) => St.mk [(0, eS 1 vt a0), (1, vi a1), (2, vi a2)] []) ?_ ?_
 ·rintro ⟨⟩ h
  refine sj ?_
  refine rk 1 (.k3 (.i 20 (eS 1 vt a0) .n)) ?_
  refine jo 21 (.len 0 20) (ok_len_m rfl) ?_
  refine rk 3 (.d (.k (.d (.k (.i 24 (vb (decide ((a0.length : Int) ≤ a1))) .n))))) ?_
  refine gj (eS 1 vt a0) 25 (.mov 0) 24 false rfl ?_
  refine gv 26 (.len 0 25) 24 false rfl (fun hg => (ok_len_m rfl)) (fun hg => (.cons hg .nil)) ?_
  refine gj (vi a2) 27 (.mov 2) 24 false rfl ?_
  refine gk (vb (decide (a2 < (a0.length : Int)))) 28 (.bin .gtr false 26 27) 24 false rfl (fun hg => (.cons hg (.cons hg .nil))) ?_
  refine gk (vb (decide (a2 < (a0.length : Int)))) 29 (.mov 28) 24 false rfl (fun hg => (.cons hg .nil)) ?_
  refine gj (eS 1 vt a0) 30 (.mov 0) 29 true rfl ?_
  refine gv 31 (.len 0 30) 29 true rfl (fun hg => (ok_len_m rfl)) (fun hg => (.cons hg .nil)) ?_
  refine gj (vi a2) 32 (.mov 2) 29 true rfl ?_
  refine cK h fun c4 h => ?_
  refine gv 33 (.bin .add false 32 (ki 3)) 29 true rfl (fun hg => (r_add rfl rfl (gor c4 hg))) (fun hg => (.cons hg (.cons rfl .nil))) ?_
  refine gk (vb (decide ((a0.length : Int) ≤ (a2 + 3)))) 34 (.bin .leq false 31 33) 29 true rfl (fun hg => (.cons hg (.cons hg .nil))) ?_
  refine RegJ.op (Op1.andg (g := !(decide ((a0.length : Int) ≤ a1))) (cy (IG 35 (.pick 29 34 (.c (.p (.bool false)))) 24 false)) rfl rfl rfl (fun hg => by first | exact hokA2 hg | exact hokA3 hg | exact hokA1 | exact hokA0 | (rw [hg]; simp) | simp_all)) ?_
  refine po 36 24 35 rfl rfl ?_
  refine jk 1 (.i 6 (vb ((decide ((a0.length : Int) ≤ a1)) || ((decide (a2 < (a0.length : Int))) && (decide ((a0.length : Int) ≤ (a2 + 3)))))) .n) ?_
  refine q3 ?_
  have h := si h
  subst h
  exact DoneS.ret Sees.refl rfl rfl
 intro k1 h
 refine sk (.k3 (.i 7 (vi 0) .n)) ?_
 refine q4 ?_
 refine ts (.k3 (.i 7 (vi 0) .n)) ?_
 refine TriE.loopN h (fun (v1 : Nat) => St.mk [(0, eS 1 vt a0), (1, vi a1), (2, vi a2), (7, vi v1)] []) rfl ?_
 clear h
 rintro back v1 h
 dsimp only [agraffelaw09_short_L1] at h
 refine q1 ?_
 refine sj ?_
 refine rk 2 (.k4 (.i 8 (vi v1) (.i 9 (eS 1 vt a0) .n))) ?_
 refine jo 10 (.len 0 9) (ok_len_m rfl) ?_
 refine jo 11 (.bin .lss false 8 10) (n_lss (i := v1) (j := a0.length) rfl rfl) ?_
 refine jf (.d2 (.k4 (.i 11 (vb (decide (v1 < a0.length))) .n))) ?_
 refine tc h (fun c1 h => ?_) (fun c1 h => ?_)
 ·refine q2 ?_
  refine q7 ?_
  refine sj ?_
  refine rk 2 (.k4 (.i 14 (eS 1 vt a0) (.i 15 (vi v1) .n))) ?_
  refine jo 16 (.iaddr 1 14 15) (ok_iaddr_m (j := v1) rfl rfl rfl c1) ?_
  refine jo 17 (.load false 1 16) (ok_load_fm (v := vt (ix a0 v1)) rfl c1 rfl) ?_
  refine jo 18 (.len 1 17) (ok_len_t rfl) ?_
  refine jo 19 (.bin .gtr false 18 (ki 30)) (n_gtr (i := (ix a0 v1).length) (j := 30) rfl rfl) ?_
  refine jf (.d4 (.k4 (.i 19 (vb (decide (30 < ((ix a0 v1).length)))) .n))) ?_
  refine tc h (fun c2 h => ?_) (fun c2 h => ?_)
  ·refine sk (.i 6 (vb false) .n) ?_
   refine q3 ?_
   have h := si h
   subst h
   exact DoneS.ret Sees.refl rfl rfl
  refine q2 ?_
  refine q6 ?_
  refine rk 1 (.k3 (.i 12 (vi v1) .n)) ?_
  refine cK h fun c3 h => ?_
  refine jo 13 (.bin .add false 12 (ki 1)) (r_addn (i := v1) (j := 1) rfl rfl c3) ?_
  refine jk 1 (.d (.k3 (.i 7 (vi ((v1 + 1 : Nat) : Int)) .n))) ?_
  exact Vs.intro sy ⟨(v1 + 1), rfl, h⟩
 refine q5 ?_
 exact Vs.intro sy ⟨(), rfl, h⟩
set_option maxHeartbeats 1000000 in
theorem agraffelaw09_Light_ok (n : Nat) (a0 : Diary) (r : Bool) (h : agraffelaw09_Light n a0 = some r) : FnL Try.prog 14 [.agg [eS 1 vt a0.Places, eS 1 vt a0.Technicians, eS 4 eRoad a0.Roads, eS 3 eGrand a0.Grands, vi a0.Change, vi a0.Lasts]] [] (vb r) [] := by
 dsimp only [agraffelaw09_Light] at h
 refine fo [2] Try.call14 Try.func14 rfl ?_
 refine sko (.i 1 (.ptr 0 0 0) .n) [some (.row 6 [.agg [eS 1 vt a0.Places, eS 1 vt a0.Technicians, eS 4 eRoad a0.Roads, eS 3 eGrand a0.Grands, vi a0.Change, vi a0.Lasts]])] ?_
 refine q1 ?_
 refine sj ?_
 refine rk 2 (.k (.i 6 (eS 1 vt a0.Places) .n)) ?_
 refine bK h fun y1 hy1 h => ?_
 refine jc 7 [6, (ki 6), (ki 20)] (agraffelaw09_short_ok n a0.Places 6 20 y1 hy1) ?_
 refine rk 2 (.d (.k (.i 9 (vb (!y1)) .n))) ?_
 refine gj (.ptr 0 0 1) 10 (.faddr 1 1) 9 false rfl ?_
 refine gk (eS 1 vt a0.Technicians) 11 (.load false 1 10) 9 false rfl (fun hg => (.cons hg .nil)) ?_
 refine bK h fun y2 hy2 h => ?_
 refine gc 12 [11, (ki 4), (ki 12)] 9 false rfl (fun hg => agraffelaw09_short_ok n a0.Technicians 4 12 y2 (gcall_some hy2 hg)) (fun hg => (.cons rfl (.cons hg (.cons rfl (.cons rfl .nil))))) (fun hg => by kernel_rfl) ?_
 refine gk (vb (!y2)) 13 (.un .not 12) 9 false rfl (fun hg => (.cons hg .nil)) ?_
 refine po 14 9 13 rfl rfl ?_
 refine rk 1 (.d4 (.d (.k (.i 15 (vb ((!y1) || (!y2))) .n)))) ?_
 refine gj (.ptr 0 0 2) 16 (.faddr 2 1) 15 false rfl ?_
 refine gk (eS 4 eRoad a0.Roads) 17 (.load false 1 16) 15 false rfl (fun hg => (.cons hg .nil)) ?_
 refine gv 18 (.len 0 17) 15 false rfl (fun hg => (ok_len_m rfl)) (fun hg => (.cons hg .nil)) ?_
 refine gv 19 (.bin .gtr false 18 (ki 8)) 15 false rfl (fun hg => (n_gtr (i := a0.Roads.length) (j := 8) rfl rfl)) (fun hg => (.cons hg (.cons rfl .nil))) ?_
 refine gk (vb (decide (8 < a0.Roads.length))) 20 (.mov 19) 15 false rfl (fun hg => (.cons hg .nil)) ?_
 refine gj (.ptr 0 0 2) 21 (.faddr 2 1) 20 true rfl ?_
 refine gk (eS 4 eRoad a0.Roads) 22 (.load false 1 21) 20 true rfl (fun hg => (.cons hg .nil)) ?_
 refine gv 23 (.len 0 22) 20 true rfl (fun hg => (ok_len_m rfl)) (fun hg => (.cons hg .nil)) ?_
 refine gv 24 (.bin .leq false 23 (ki 60)) 20 true rfl (fun hg => (n_leq (i := a0.Roads.length) (j := 60) rfl rfl)) (fun hg => (.cons hg (.cons rfl .nil))) ?_
 refine RegJ.op (Op1.andg (g := !((!y1) || (!y2))) (cy (IG 25 (.pick 20 24 (.c (.p (.bool false)))) 15 false)) rfl rfl rfl (fun hg => by first | exact hokA2 hg | exact hokA3 hg | exact hokA1 | exact hokA0 | (rw [hg]; simp) | simp_all)) ?_
 refine po 26 15 25 rfl rfl ?_
 refine rk 1 (.d4 (.d4 (.d3 (.k (.i 27 (vb (((!y1) || (!y2)) || ((decide (8 < a0.Roads.length)) && (decide (a0.Roads.length ≤ 60))))) .n))))) ?_
 refine gj (.ptr 0 0 2) 28 (.faddr 2 1) 27 false rfl ?_
 refine gk (eS 4 eRoad a0.Roads) 29 (.load false 1 28) 27 false rfl (fun hg => (.cons hg .nil)) ?_
 refine gv 30 (.len 0 29) 27 false rfl (fun hg => (ok_len_m rfl)) (fun hg => (.cons hg .nil)) ?_
 refine gv 31 (.bin .gtr false 30 (ki 63)) 27 false rfl (fun hg => (n_gtr (i := a0.Roads.length) (j := 63) rfl rfl)) (fun hg => (.cons hg (.cons rfl .nil))) ?_
 refine po 32 27 31 rfl rfl ?_
 refine rk 1 (.d4 (.d (.k (.i 33 (vb ((((!y1) || (!y2)) || ((decide (8 < a0.Roads.length)) && (decide (a0.Roads.length ≤ 60)))) || (decide (63 < a0.Roads.length)))) .n)))) ?_
 refine gj (.ptr 0 0 3) 34 (.faddr 3 1) 33 false rfl ?_
 refine gk (eS 3 eGrand a0.Grands) 35 (.load false 1 34) 33 false rfl (fun hg => (.cons hg .nil)) ?_
 refine gv 36 (.len 0 35) 33 false rfl (fun hg => (ok_len_m rfl)) (fun hg => (.cons hg .nil)) ?_
 refine gv 37 (.bin .gtr false 36 (ki 4)) 33 false rfl (fun hg => (n_gtr (i := a0.Grands.length) (j := 4) rfl rfl)) (fun hg => (.cons hg (.cons rfl .nil))) ?_
 refine gk (vb (decide (4 < a0.Grands.length))) 38 (.mov 37) 33 false rfl (fun hg => (.cons hg .nil)) ?_
 refine gj (.ptr 0 0 3) 39 (.faddr 3 1) 38 true rfl ?_
 refine gk (eS 3 eGrand a0.Grands) 40 (.load false 1 39) 38 true rfl (fun hg => (.cons hg .nil)) ?_
 refine gv 41 (.len 0 40) 38 true rfl (fun hg => (ok_len_m rfl)) (fun hg => (.cons hg .nil)) ?_
 refine gv 42 (.bin .leq false 41 (ki 12)) 38 true rfl (fun hg => (n_leq (i := a0.Grands.length) (j := 12) rfl rfl)) (fun hg => (.cons hg (.cons rfl .nil))) ?_
 refine RegJ.op (Op1.andg (g := !((((!y1) || (!y2)) || ((decide (8 < a0.Roads.length)) && (decide (a0.Roads.length ≤ 60)))) || (decide (63 < a0.Roads.length)))) (cy (IG 43 (.pick 38 42 (.c (.p (.bool false)))) 33 false)) rfl rfl rfl (fun hg => by first | exact hokA2 hg | exact hokA3 hg | exact hokA1 | exact hokA0 | (rw [hg]; simp) | simp_all)) ?_
 refine po 44 33 43 rfl rfl ?_
 refine rk 1 (.d4 (.d4 (.d3 (.k (.i 45 (vb (((((!y1) || (!y2)) || ((decide (8 < a0.Roads.length)) && (decide (a0.Roads.length ≤ 60)))) || (decide (63 < a0.Roads.length))) || ((decide (4 < a0.Grands.length)) && (decide (a0.Grands.length ≤ 12))))) .n))))) ?_
 refine gj (.ptr 0 0 3) 46 (.faddr 3 1) 45 false rfl ?_
 refine gk (eS 3 eGrand a0.Grands) 47 (.load false 1 46) 45 false rfl (fun hg => (.cons hg .nil)) ?_
 refine gv 48 (.len 0 47) 45 false rfl (fun hg => (ok_len_m rfl)) (fun hg => (.cons hg .nil)) ?_
 refine gv 49 (.bin .gtr false 48 (ki 15)) 45 false rfl (fun hg => (n_gtr (i := a0.Grands.length) (j := 15) rfl rfl)) (fun hg => (.cons hg (.cons rfl .nil))) ?_
 refine po 50 45 49 rfl rfl ?_
 refine jf (.d4 (.d (.k (.i 50 (vb ((((((!y1) || (!y2)) || ((decide (8 < a0.Roads.length)) && (decide (a0.Roads.length ≤ 60)))) || (decide (63 < a0.Roads.length))) || ((decide (4 < a0.Grands.length)) && (decide (a0.Grands.length ≤ 12)))) || (decide (15 < a0.Grands.length)))) .n)))) ?_
 refine tc h (fun c1 h => ?_) (fun c1 h => ?_)
 ·refine sk (.i 2 (vb false) .n) ?_
  refine q3 ?_
  have h := si h
  subst h
  exact DoneS.ret (S' := ⟨[(2, vb false)], []⟩) (sc [] (by decide) (by kernel_rfl) ObRen.nil rfl rfl) rfl rfl
 refine q2 ?_
 refine TriE.seqK h (fun (_ : Unit) => St.mk [(1, .ptr 0 0 0)] [some (.row 6 [.agg [eS 1 vt a0.Places, eS 1 vt a0.Technicians, eS 4 eRoad a0.Roads, eS 3 eGrand a0.Grands, vi a0.Change, vi a0.Lasts]])]) ?_ ?_
 ·rintro ⟨⟩ h
  refine TriE.seqK h (fun (_ : Unit) => St.mk [] []) ?_ ?_
  ·rintro ⟨⟩ h
   refine sk (.i 2 (vb true) .n) ?_
   refine q3 ?_
   have h := si h
   subst h
   exact DoneS.ret Sees.refl rfl rfl
  intro k2 h
  refine sk (.k (.i 4 (vi 0) .n)) ?_
  refine q4 ?_
  refine ts (.k (.i 4 (vi 0) .n)) ?_
  refine TriE.loopN h (fun (v4 : Nat) => St.mk [(1, .ptr 0 0 0), (4, vi v4)] [some (.row 6 [.agg [eS 1 vt a0.Places, eS 1 vt a0.Technicians, eS 4 eRoad a0.Roads, eS 3 eGrand a0.Grands, vi a0.Change, vi a0.Lasts]])]) rfl ?_
  clear h
  rintro back v4 h
  dsimp only [agraffelaw09_Light_L2] at h
  refine q1 ?_
  refine sj ?_
  refine rk 3 (.k2 (.i 76 (vi v4) (.i 78 (eS 3 eGrand a0.Grands) .n))) ?_
  refine jo 79 (.len 0 78) (ok_len_m rfl) ?_
  refine jo 80 (.bin .lss false 76 79) (n_lss (i := v4) (j := a0.Grands.length) rfl rfl) ?_
  refine jf (.d2 (.k2 (.i 80 (vb (decide (v4 < a0.Grands.length))) .n))) ?_
  refine tc h (fun c5 h => ?_) (fun c5 h => ?_)
  ·refine q2 ?_
   refine q7 ?_
   refine sj ?_
   refine rk 3 (.k2 (.i 84 (eS 3 eGrand a0.Grands) (.i 85 (vi v4) .n))) ?_
   refine jo 86 (.iaddr 3 84 85) (ok_iaddr_m (j := v4) rfl rfl rfl c5) ?_
   refine rk 1 (.d (.k2 (.i 87 (.fptr 3 (List.map eGrand a0.Grands) v4 0) .n))) ?_
   refine jo 88 (.load false 1 87) (ok_load_fm (v := vt ((ix a0.Grands v4).Name)) rfl c5 rfl) ?_
   refine jo 89 (.len 1 88) (ok_len_t rfl) ?_
   refine jo 90 (.bin .gtr false 89 (ki 30)) (n_gtr (i := ((ix a0.Grands v4).Name).length) (j := 30) rfl rfl) ?_
   refine rk 1 (.d3 (.k2 (.i 91 (vb (decide (30 < (((ix a0.Grands v4).Name).length)))) .n))) ?_
   refine gj (.ptr 0 0 3) 92 (.faddr 3 1) 91 false rfl ?_
   refine gk (eS 3 eGrand a0.Grands) 93 (.load false 1 92) 91 false rfl (fun hg => (.cons hg .nil)) ?_
   refine gj (vi v4) 94 (.mov 4) 91 false rfl ?_
   refine gv 95 (.iaddr 3 93 94) 91 false rfl (fun hg => (ok_iaddr_m (j := v4) rfl rfl rfl c5)) (fun hg => (.cons hg (.cons hg .nil))) ?_
   refine gk (.fptr 3 (List.map eGrand a0.Grands) v4 1) 96 (.faddr 1 95) 91 false rfl (fun hg => (.cons hg .nil)) ?_
   refine gv 97 (.load false 1 96) 91 false rfl (fun hg => (ok_load_fm (v := vt ((ix a0.Grands v4).Place)) rfl c5 rfl)) (fun hg => (.cons hg .nil)) ?_
   refine gv 98 (.len 1 97) 91 false rfl (fun hg => (ok_len_t rfl)) (fun hg => (.cons hg .nil)) ?_
   refine gv 99 (.bin .gtr false 98 (ki 30)) 91 false rfl (fun hg => (n_gtr (i := ((ix a0.Grands v4).Place).length) (j := 30) rfl rfl)) (fun hg => (.cons hg (.cons rfl .nil))) ?_
   refine po 100 91 99 rfl rfl ?_
   refine jf (.d4 (.d4 (.d (.k2 (.i 100 (vb ((decide (30 < (((ix a0.Grands v4).Name).length))) || (decide (30 < (((ix a0.Grands v4).Place).length))))) .n))))) ?_
   refine tc h (fun c6 h => ?_) (fun c6 h => ?_)
   ·refine sk (.i 2 (vb false) .n) ?_
    refine q3 ?_
    have h := si h
    subst h
    exact DoneS.ret (S' := ⟨[(2, vb false)], []⟩) (sc [] (by decide) (by kernel_rfl) ObRen.nil rfl rfl) rfl rfl
   refine q2 ?_
   refine q6 ?_
   refine rk 1 (.k (.i 81 (vi v4) .n)) ?_
   refine cK h fun c7 h => ?_
   refine jo 82 (.bin .add false 81 (ki 1)) (r_addn (i := v4) (j := 1) rfl rfl c7) ?_
   refine jk 1 (.d (.k (.i 4 (vi ((v4 + 1 : Nat) : Int)) .n))) ?_
   exact Vs.intro sy ⟨(v4 + 1), rfl, h⟩
  refine q5 ?_
  exact Vs.intro (sc [] (by decide) (by kernel_rfl) ObRen.nil rfl rfl) ⟨(), rfl, h⟩
 intro k1 h
 refine sk (.k (.i 3 (vi 0) .n)) ?_
 refine q4 ?_
 refine ts (.k (.i 3 (vi 0) .n)) ?_
 refine TriE.loopN h (fun (v3 : Nat) => St.mk [(1, .ptr 0 0 0), (3, vi v3)] [some (.row 6 [.agg [eS 1 vt a0.Places, eS 1 vt a0.Technicians, eS 4 eRoad a0.Roads, eS 3 eGrand a0.Grands, vi a0.Change, vi a0.Lasts]])]) rfl ?_
 clear h
 rintro back v3 h
 dsimp only [agraffelaw09_Light_L1] at h
 refine q1 ?_
 refine sj ?_
 refine rk 3 (.k2 (.i 51 (vi v3) (.i 53 (eS 4 eRoad a0.Roads) .n))) ?_
 refine jo 54 (.len 0 53) (ok_len_m rfl) ?_
 refine jo 55 (.bin .lss false 51 54) (n_lss (i := v3) (j := a0.Roads.length) rfl rfl) ?_
 refine jf (.d2 (.k2 (.i 55 (vb (decide (v3 < a0.Roads.length))) .n))) ?_
 refine tc h (fun c2 h => ?_) (fun c2 h => ?_)
 ·refine q2 ?_
  refine q7 ?_
  refine sj ?_
  refine rk 3 (.k2 (.i 59 (eS 4 eRoad a0.Roads) (.i 60 (vi v3) .n))) ?_
  refine jo 61 (.iaddr 4 59 60) (ok_iaddr_m (j := v3) rfl rfl rfl c2) ?_
  refine rk 1 (.d (.k2 (.i 62 (.fptr 4 (List.map eRoad a0.Roads) v3 0) .n))) ?_
  refine jo 63 (.load false 1 62) (ok_load_fm (v := vt ((ix a0.Roads v3).A)) rfl c2 rfl) ?_
  refine jo 64 (.len 1 63) (ok_len_t rfl) ?_
  refine jo 65 (.bin .gtr false 64 (ki 30)) (n_gtr (i := ((ix a0.Roads v3).A).length) (j := 30) rfl rfl) ?_
  refine rk 1 (.d3 (.k2 (.i 66 (vb (decide (30 < (((ix a0.Roads v3).A).length)))) .n))) ?_
  refine gj (.ptr 0 0 2) 67 (.faddr 2 1) 66 false rfl ?_
  refine gk (eS 4 eRoad a0.Roads) 68 (.load false 1 67) 66 false rfl (fun hg => (.cons hg .nil)) ?_
  refine gj (vi v3) 69 (.mov 3) 66 false rfl ?_
  refine gv 70 (.iaddr 4 68 69) 66 false rfl (fun hg => (ok_iaddr_m (j := v3) rfl rfl rfl c2)) (fun hg => (.cons hg (.cons hg .nil))) ?_
  refine gk (.fptr 4 (List.map eRoad a0.Roads) v3 1) 71 (.faddr 1 70) 66 false rfl (fun hg => (.cons hg .nil)) ?_
  refine gv 72 (.load false 1 71) 66 false rfl (fun hg => (ok_load_fm (v := vt ((ix a0.Roads v3).B)) rfl c2 rfl)) (fun hg => (.cons hg .nil)) ?_
  refine gv 73 (.len 1 72) 66 false rfl (fun hg => (ok_len_t rfl)) (fun hg => (.cons hg .nil)) ?_
  refine gv 74 (.bin .gtr false 73 (ki 30)) 66 false rfl (fun hg => (n_gtr (i := ((ix a0.Roads v3).B).length) (j := 30) rfl rfl)) (fun hg => (.cons hg (.cons rfl .nil))) ?_
  refine po 75 66 74 rfl rfl ?_
  refine jf (.d4 (.d4 (.d (.k2 (.i 75 (vb ((decide (30 < (((ix a0.Roads v3).A).length))) || (decide (30 < (((ix a0.Roads v3).B).length))))) .n))))) ?_
  refine tc h (fun c3 h => ?_) (fun c3 h => ?_)
  ·refine sk (.i 2 (vb false) .n) ?_
   refine q3 ?_
   have h := si h
   subst h
   exact DoneS.ret (S' := ⟨[(2, vb false)], []⟩) (sc [] (by decide) (by kernel_rfl) ObRen.nil rfl rfl) rfl rfl
  refine q2 ?_
  refine q6 ?_
  refine rk 1 (.k (.i 56 (vi v3) .n)) ?_
  refine cK h fun c4 h => ?_
  refine jo 57 (.bin .add false 56 (ki 1)) (r_addn (i := v3) (j := 1) rfl rfl c4) ?_
  refine jk 1 (.d (.k (.i 3 (vi ((v3 + 1 : Nat) : Int)) .n))) ?_
  exact Vs.intro sy ⟨(v3 + 1), rfl, h⟩
 refine q5 ?_
 exact Vs.intro sy ⟨(), rfl, h⟩
theorem agraffelaw09_slim_ok (n : Nat) (a0 : Item) (r : Unit) (h : agraffelaw09_slim n a0 = some r) : FnL Try.prog 15 [.agg [vi a0.Kind, vi a0.From, vi a0.To, vt a0.Grand, vt a0.Place, vt a0.Who, vi a0.Deposit]] [] (vb (((decide (a0.Grand.length ≤ 30)) && (decide (a0.Place.length ≤ 30))) && (decide (a0.Who.length ≤ 30)))) [] := by
 dsimp only [agraffelaw09_slim] at h
 refine fo [2] Try.call15 Try.func15 rfl ?_
 refine sko (.i 1 (.ptr 0 0 0) .n) [some (.row 7 [.agg [vi a0.Kind, vi a0.From, vi a0.To, vt a0.Grand, vt a0.Place, vt a0.Who, vi a0.Deposit]])] ?_
 refine sj ?_
 refine rk 2 (.k (.i 4 (vt a0.Grand) .n)) ?_
 refine jo 5 (.len 1 4) (ok_len_t rfl) ?_
 refine jo 6 (.bin .leq false 5 (ki 30)) (n_leq (i := a0.Grand.length) (j := 30) rfl rfl) ?_
 refine rk 1 (.d2 (.k (.i 7 (vb (decide (a0.Grand.length ≤ 30))) .n))) ?_
 refine gj (.ptr 0 0 4) 8 (.faddr 4 1) 7 true rfl ?_
 refine gk (vt a0.Place) 9 (.load false 1 8) 7 true rfl (fun hg => (.cons hg .nil)) ?_
 refine gv 10 (.len 1 9) 7 true rfl (fun hg => (ok_len_t rfl)) (fun hg => (.cons hg .nil)) ?_
 refine gv 11 (.bin .leq false 10 (ki 30)) 7 true rfl (fun hg => (n_leq (i := a0.Place.length) (j := 30) rfl rfl)) (fun hg => (.cons hg (.cons rfl .nil))) ?_
 refine pa 12 7 11 rfl rfl ?_
 refine rk 1 (.d4 (.d (.k (.i 13 (vb ((decide (a0.Grand.length ≤ 30)) && (decide (a0.Place.length ≤ 30)))) .n)))) ?_
 refine gj (.ptr 0 0 5) 14 (.faddr 5 1) 13 true rfl ?_
 refine gk (vt a0.Who) 15 (.load false 1 14) 13 true rfl (fun hg => (.cons hg .nil)) ?_
 refine gv 16 (.len 1 15) 13 true rfl (fun hg => (ok_len_t rfl)) (fun hg => (.cons hg .nil)) ?_
 refine gv 17 (.bin .leq false 16 (ki 30)) 13 true rfl (fun hg => (n_leq (i := a0.Who.length) (j := 30) rfl rfl)) (fun hg => (.cons hg (.cons rfl .nil))) ?_
 refine pa 18 13 17 rfl rfl ?_
 refine jk 1 (.i 2 (vb (((decide (a0.Grand.length ≤ 30)) && (decide (a0.Place.length ≤ 30))) && (decide (a0.Who.length ≤ 30)))) .n) ?_
 refine q3 ?_
 have h := si h
 subst h
 exact DoneS.ret (S' := ⟨[(2, vb (((decide (a0.Grand.length ≤ 30)) && (decide (a0.Place.length ≤ 30))) && (decide (a0.Who.length ≤ 30))))], []⟩) (sc [] (by decide) (by kernel_rfl) ObRen.nil rfl rfl) rfl rfl
theorem agraffebase_CopyTexts_ok (n : Nat) (a0 : List Str) (r : Unit) (h : agraffebase_CopyTexts n a0 = some r) : FnL Try.prog 28 [eS 1 vt a0] [] (eS 1 vt a0) [] := by
 dsimp only [agraffebase_CopyTexts] at h
 refine fo [2] Try.call28 Try.func28 rfl ?_
 refine sk .a ?_
 refine sj ?_
 refine rk 2 (.i 3 .emp (.i 4 (eS 1 vt a0) .n)) ?_
 refine cK h fun c1 h => ?_
 refine jx 5 (.app 1 16 3 4) _ (ok_app_emp (e := vt) (l := a0) (u := eS 1 vt a0) rfl rfl els_sl c1) rfl rfl ?_
 refine jk 1 (.i 2 (.own 0 0 a0.length) .n) ?_
 refine q3 ?_
 have h := si h
 subst h
 exact DoneS.ret (S' := ⟨[(2, eS 1 vt a0)], []⟩) (Sees.trans (Sees.freeze 0 (fr' := [(2, eS 1 vt a0)]) (ob' := [none]) rfl (frz_row vt_frzE _) (.cons (frz_full rfl) .nil) rfl) (sc [] (by decide) (by kernel_rfl) ObRen.nil rfl rfl)) rfl rfl
theorem agraffelaw09_town_ok (n : Nat) (a0 : Diary) (r : Unit) (h : agraffelaw09_town n a0 = some r) : FnL Try.prog 18 [.agg [eS 1 vt a0.Places, eS 1 vt a0.Technicians, eS 4 eRoad a0.Roads, eS 3 eGrand a0.Grands, vi a0.Change, vi a0.Lasts]] [] (.agg [eS 1 vt a0.Places, eS 1 vt a0.Technicians, eS 4 eRoad a0.Roads, eS 3 eGrand a0.Grands, vi a0.Change, vi a0.Lasts]) [] := by
 dsimp only [agraffelaw09_town] at h
 refine FnL.ofC [.cell 2 26] Try.call18 Try.func18 rfl .nil ?_ (hl := rfl)
 refine sko (.i 1 (.ptr 0 0 0) (.i 2 (.ptr 1 0 0) .n)) [some (.row 6 [.agg [eS 1 vt a0.Places, eS 1 vt a0.Technicians, eS 4 eRoad a0.Roads, eS 3 eGrand a0.Grands, vi a0.Change, vi a0.Lasts]]), some (.row 6 [.agg [.emp, .emp, .emp, .emp, vi 0, vi 0]])] ?_
 refine q1 ?_
 refine ts .a ?_
 refine TriE.draw (by kernel_rfl) ?_
 refine dk 2 (.i 4 (eS 1 vt a0.Places) (.i 3 (.ptr 0 0 0) .a)) ?_
 refine bK h fun y1 hy1 h => ?_
 refine dc (eS 1 vt a0.Places) 0 5 [4] (agraffebase_CopyTexts_ok n a0.Places y1 hy1) [] rfl ObsRen.nil ObsRen.nil rfl (.inr ⟨rfl, rfl⟩) ?_
 refine dk 2 (.i 7 (eS 1 vt a0.Technicians) (.i 6 (.ptr 0 0 1) .a)) ?_
 refine bK h fun y2 hy2 h => ?_
 refine dc (eS 1 vt a0.Technicians) 0 8 [7] (agraffebase_CopyTexts_ok n a0.Technicians y2 hy2) [] rfl ObsRen.nil ObsRen.nil rfl (.inr ⟨rfl, rfl⟩) ?_
 refine dk 3 (.i 11 (eS 4 eRoad a0.Roads) (.i 10 (.ptr 0 0 2) (.i 9 .emp .a))) ?_
 refine cK h fun c1 h => ?_
 refine dx 12 (.app 4 48 9 11) _ (ok_app_emp (e := eRoad) (l := a0.Roads) (u := eS 4 eRoad a0.Roads) rfl rfl els_sl c1) rfl rfl ?_
 refine dk 3 (.i 15 (eS 3 eGrand a0.Grands) (.i 14 (.ptr 0 0 3) (.i 13 .emp .a))) ?_
 refine cK h fun c2 h => ?_
 refine dx 16 (.app 3 40 13 15) _ (ok_app_emp (e := eGrand) (l := a0.Grands) (u := eS 3 eGrand a0.Grands) rfl rfl els_sl c2) rfl rfl ?_
 refine dko 6 (.i 21 (.agg [eS 1 vt a0.Places, eS 1 vt a0.Technicians, .own 11 0 a0.Roads.length, .own 15 0 a0.Grands.length, vi a0.Change, vi a0.Lasts]) (.i 20 (vi a0.Lasts) (.i 19 (.ptr 0 0 5) (.i 18 (vi a0.Change) (.i 17 (.ptr 0 0 4) .a))))) [some (.row 6 [.agg [eS 1 vt a0.Places, eS 1 vt a0.Technicians, eS 4 eRoad a0.Roads, eS 3 eGrand a0.Grands, vi a0.Change, vi a0.Lasts]]), some (.row 6 [.agg [eS 1 vt a0.Places, eS 1 vt a0.Technicians, .own 11 0 a0.Roads.length, .own 15 0 a0.Grands.length, vi a0.Change, vi a0.Lasts]]), none, none, none, none, none, none, none, none, none, some (.row 4 (List.map eRoad a0.Roads)), none, none, none, some (.row 3 (List.map eGrand a0.Grands)), none, none, none, none, none, none] ?_
 refine dfi (ob' := [some (.row 6 [.agg [eS 1 vt a0.Places, eS 1 vt a0.Technicians, .own 1 0 a0.Roads.length, .own 2 0 a0.Grands.length, vi a0.Change, vi a0.Lasts]]), some (.row 4 (List.map eRoad a0.Roads)), some (.row 3 (List.map eGrand a0.Grands))]) (.i 2 (.ptr 0 0 0) .n) [1, 11, 15] (.cons rfl (obRen_row eRoad_frz rfl (obRen_row eGrand_frz rfl .nil))) ?_
 refine q3 ?_
 have h := si h
 subst h
 exact DoneC.ret (S' := ⟨[(2, .agg [eS 1 vt a0.Places, eS 1 vt a0.Technicians, eS 4 eRoad a0.Roads, eS 3 eGrand a0.Grands, vi a0.Change, vi a0.Lasts])], []⟩) [.agg [eS 1 vt a0.Places, eS 1 vt a0.Technicians, .own 1 0 a0.Roads.length, .own 2 0 a0.Grands.length, vi a0.Change, vi a0.Lasts]] (Sees.trans (Sees.freeze 2 (fr' := [(2, .agg [eS 1 vt a0.Places, eS 1 vt a0.Technicians, .own 1 0 a0.Roads.length, eS 3 eGrand a0.Grands, vi a0.Change, vi a0.Lasts])]) (ob' := [some (.row 6 [.agg [eS 1 vt a0.Places, eS 1 vt a0.Technicians, .own 1 0 a0.Roads.length, .own 2 0 a0.Grands.length, vi a0.Change, vi a0.Lasts]]), some (.row 4 (List.map eRoad a0.Roads)), none]) rfl (frz_row eGrand_frzE _) (.cons (frz_agg (.cons (.refl _) (.cons (.refl _) (.cons (.refl _) (.cons (frz_full rfl) (.cons (.refl _) (.cons (.refl _) .nil))))))) .nil) rfl) (Sees.trans (Sees.freeze 1 (fr' := [(2, .agg [eS 1 vt a0.Places, eS 1 vt a0.Technicians, eS 4 eRoad a0.Roads, eS 3 eGrand a0.Grands, vi a0.Change, vi a0.Lasts])]) (ob' := [some (.row 6 [.agg [eS 1 vt a0.Places, eS 1 vt a0.Technicians, .own 1 0 a0.Roads.length, .own 2 0 a0.Grands.length, vi a0.Change, vi a0.Lasts]]), none, none]) rfl (frz_row eRoad_frzE _) (.cons (frz_agg (.cons (.refl _) (.cons (.refl _) (.cons (frz_full rfl) (.cons (.refl _) (.cons (.refl _) (.cons (.refl _) .nil))))))) .nil) rfl) (sc [] (by decide) (by kernel_rfl) ObRen.nil rfl rfl))) rfl rfl
theorem agraffelaw09_Few_ok (n : Nat) (a0 : List Item) (r : Bool) (h : agraffelaw09_Few n a0 = some r) : FnL Try.prog 21 [eS 7 eItem a0] [] (vb r) [] := by
 dsimp only [agraffelaw09_Few] at h
 refine fo [2] Try.call21 Try.func21 rfl ?_
 refine sk .a ?_
 refine TriE.seqK h (fun (_ : Unit) => St.mk [(0, eS 7 eItem a0)] []) ?_ ?_
 ·rintro ⟨⟩ h
  refine sj ?_
  refine rk 1 (.k (.i 16 (eS 7 eItem a0) .n)) ?_
  refine jo 17 (.len 0 16) (ok_len_m rfl) ?_
  refine jo 18 (.bin .leq false 17 (ki 10)) (n_leq (i := a0.length) (j := 10) rfl rfl) ?_
  refine rk 1 (.d2 (.k (.i 19 (vb (decide (a0.length ≤ 10))) .n))) ?_
  refine gj (eS 7 eItem a0) 20 (.mov 0) 19 false rfl ?_
  refine gv 21 (.len 0 20) 19 false rfl (fun hg => (ok_len_m rfl)) (fun hg => (.cons hg .nil)) ?_
  refine gv 22 (.bin .gtr false 21 (ki 100)) 19 false rfl (fun hg => (n_gtr (i := a0.length) (j := 100) rfl rfl)) (fun hg => (.cons hg (.cons rfl .nil))) ?_
  refine gk (vb (decide (100 < a0.length))) 23 (.mov 22) 19 false rfl (fun hg => (.cons hg .nil)) ?_
  refine gj (eS 7 eItem a0) 24 (.mov 0) 23 true rfl ?_
  refine gv 25 (.len 0 24) 23 true rfl (fun hg => (ok_len_m rfl)) (fun hg => (.cons hg .nil)) ?_
  refine gv 26 (.bin .leq false 25 (ki 103)) 23 true rfl (fun hg => (n_leq (i := a0.length) (j := 103) rfl rfl)) (fun hg => (.cons hg (.cons rfl .nil))) ?_
  refine RegJ.op (Op1.andg (g := !(decide (a0.length ≤ 10))) (cy (IG 27 (.pick 23 26 (.c (.p (.bool false)))) 19 false)) rfl rfl rfl (fun hg => by first | exact hokA2 hg | exact hokA3 hg | exact hokA1 | exact hokA0 | (rw [hg]; simp) | simp_all)) ?_
  refine po 28 19 27 rfl rfl ?_
  refine jk 1 (.i 2 (vb ((decide (a0.length ≤ 10)) || ((decide (100 < a0.length)) && (decide (a0.length ≤ 103))))) .n) ?_
  refine q3 ?_
  have h := si h
  subst h
  exact DoneS.ret Sees.refl rfl rfl
 intro k1 h
 refine sk (.k (.i 3 (vi 0) .n)) ?_
 refine q4 ?_
 refine ts (.k (.i 3 (vi 0) .n)) ?_
 refine TriE.loopN h (fun (v2 : Nat) => St.mk [(0, eS 7 eItem a0), (3, vi v2)] []) rfl ?_
 clear h
 rintro back v2 h
 dsimp only [agraffelaw09_Few_L1] at h
 refine q1 ?_
 refine sj ?_
 refine rk 2 (.k2 (.i 4 (vi v2) (.i 5 (eS 7 eItem a0) .n))) ?_
 refine jo 6 (.len 0 5) (ok_len_m rfl) ?_
 refine jo 7 (.bin .lss false 4 6) (n_lss (i := v2) (j := a0.length) rfl rfl) ?_
 refine jf (.d2 (.k2 (.i 7 (vb (decide (v2 < a0.length))) .n))) ?_
 refine tc h (fun c1 h => ?_) (fun c1 h => ?_)
 ·refine q2 ?_
  refine q7 ?_
  refine sj ?_
  refine rk 2 (.k2 (.i 10 (eS 7 eItem a0) (.i 11 (vi v2) .n))) ?_
  refine jo 12 (.iaddr 7 10 11) (ok_iaddr_m (j := v2) rfl rfl rfl c1) ?_
  refine jo 13 (.load true 7 12) (ok_load_fm (v := .agg [vi ((ix a0 v2).Kind), vi ((ix a0 v2).From), vi ((ix a0 v2).To), vt ((ix a0 v2).Grand), vt ((ix a0 v2).Place), vt ((ix a0 v2).Who), vi ((ix a0 v2).Deposit)]) rfl c1 rfl) ?_
  refine bK h fun y3 hy3 h => ?_
  refine jc 14 [13] (agraffelaw09_slim_ok n (ix a0 v2) y3 hy3) ?_
  refine jk 1 (.d3 (.k2 (.i 15 (vb (!(((decide ((ix a0 v2).Grand.length ≤ 30)) && (decide ((ix a0 v2).Place.length ≤ 30))) && (decide ((ix a0 v2).Who.length ≤ 30))))) .n))) ?_
  refine tc h (fun c2 h => ?_) (fun c2 h => ?_)
  ·refine sk (.i 2 (vb false) .n) ?_
   refine q3 ?_
   have h := si h
   subst h
   exact DoneS.ret Sees.refl rfl rfl
  refine q2 ?_
  refine q6 ?_
  refine rk 1 (.k (.i 8 (vi v2) .n)) ?_
  refine cK h fun c3 h => ?_
  refine jo 9 (.bin .add false 8 (ki 1)) (r_addn (i := v2) (j := 1) rfl rfl c3) ?_
  refine jk 1 (.d (.k (.i 3 (vi ((v2 + 1 : Nat) : Int)) .n))) ?_
  exact Vs.intro sy ⟨(v2 + 1), rfl, h⟩
 refine q5 ?_
 exact Vs.intro sy ⟨(), rfl, h⟩
theorem agraffelaw09_items_ok (n : Nat) (a0 : List Item) (r : Unit) (h : agraffelaw09_items n a0 = some r) : FnL Try.prog 23 [eS 7 eItem a0] [] (.own 0 0 a0.length) [some (.row 7 (List.map eItem a0))] := by
 dsimp only [agraffelaw09_items] at h
 refine fo [2] Try.call23 Try.func23 rfl ?_
 refine sk .a ?_
 refine sj ?_
 refine rk 2 (.i 3 .emp (.i 4 (eS 7 eItem a0) .n)) ?_
 refine cK h fun c1 h => ?_
 refine jx 5 (.app 7 80 3 4) _ (ok_app_emp (e := eItem) (l := a0) (u := eS 7 eItem a0) rfl rfl els_sl c1) rfl rfl ?_
 refine jk 1 (.i 2 (.own 0 0 a0.length) .n) ?_
 refine q3 ?_
 have h := si h
 subst h
 exact DoneS.ret Sees.refl rfl rfl
theorem agraffelaw09_items_2_ok (n : Nat) (a0 : List Item) (r : Unit) (h : agraffelaw09_items_2 n a0 = some r) : FnL Try.prog 23 [eS 7 eItem a0] [] (eS 7 eItem a0) [] := by
 dsimp only [agraffelaw09_items_2] at h
 refine fo [2] Try.call23 Try.func23 rfl ?_
 refine sk .a ?_
 refine sj ?_
 refine rk 2 (.i 3 .emp (.i 4 (eS 7 eItem a0) .n)) ?_
 refine cK h fun c1 h => ?_
 refine jx 5 (.app 7 80 3 4) _ (ok_app_emp (e := eItem) (l := a0) (u := eS 7 eItem a0) rfl rfl els_sl c1) rfl rfl ?_
 refine jk 1 (.i 2 (.own 0 0 a0.length) .n) ?_
 refine q3 ?_
 have h := si h
 subst h
 exact DoneS.ret (S' := ⟨[(2, eS 7 eItem a0)], []⟩) (Sees.trans (Sees.freeze 0 (fr' := [(2, eS 7 eItem a0)]) (ob' := [none]) rfl (frz_row eItem_frzE _) (.cons (frz_full rfl) .nil) rfl) (sc [] (by decide) (by kernel_rfl) ObRen.nil rfl rfl)) rfl rfl
set_option maxHeartbeats 1000000 in
theorem diary_Add_ok (n : Nat) (a0 : Diary) (a1 : List Item) (a2 : Item) (r : Int × (List Item)) (h : diary_Add n a0 a1 a2 = some r) : FnL Try.prog 25 [.agg [eS 1 vt a0.Places, eS 1 vt a0.Technicians, eS 4 eRoad a0.Roads, eS 3 eGrand a0.Grands, vi a0.Change, vi a0.Lasts], eS 7 eItem a1, .agg [vi a2.Kind, vi a2.From, vi a2.To, vt a2.Grand, vt a2.Place, vt a2.Who, vi a2.Deposit]] [] (.tup [eS 7 eItem r.2, vi r.1]) [] := by
 dsimp only [diary_Add] at h
 refine fo [6, 7] Try.call25 Try.func25 rfl ?_
 refine sko (.d (.k (.i 3 (.ptr 0 0 0) (.i 5 (.ptr 1 0 0) .n)))) [some (.row 6 [.agg [eS 1 vt a0.Places, eS 1 vt a0.Technicians, eS 4 eRoad a0.Roads, eS 3 eGrand a0.Grands, vi a0.Change, vi a0.Lasts]]), some (.row 7 [.agg [vi a2.Kind, vi a2.From, vi a2.To, vt a2.Grand, vt a2.Place, vt a2.Who, vi a2.Deposit]])] ?_
 refine TriE.seqK2 h (fun (v4 : Int) => St.mk [(1, eS 7 eItem a1), (5, .ptr 0 0 0), (8, .p (.pointer none)), (9, vi v4)] [some (.row 7 [.agg [vi a2.Kind, vi a2.From, vi a2.To, vt a2.Grand, vt a2.Place, vt a2.Who, vi a2.Deposit]])]) (fun (t : Int × (List (Int × List (Arr2_Str × Int)))) => match t with | (v6, v7) => St.mk [(1, eS 7 eItem a1), (5, .ptr 0 0 0), (8, .ptr 2 0 0), (9, vi v6)] [some (.row 7 [.agg [vi a2.Kind, vi a2.From, vi a2.To, vt a2.Grand, vt a2.Place, vt a2.Who, vi a2.Deposit]]), some (.mp (mpE vi (eM eArr2_Str vi) v7)), some (.row 7 [.agg [eS 1 vt a0.Places, eS 1 vt a0.Technicians, eS 4 eRoad a0.Roads, eS 3 eGrand a0.Grands, vi a0.Change, vi a0.Lasts, .map 1]])]) ?_ ?_ ?_
 ·rintro v4 h
  refine q7 ?_
  refine sk (.k4 (.i 16 (vb (v4 != (0 : Int))) .n)) ?_
  refine tc h (fun c1 h => ?_) (fun c1 h => ?_)
  ·refine sk (.i 6 .emp (.i 7 (vi v4) .n)) ?_
   refine q3 ?_
   have h := si h
   subst h
   exact DoneS.ret (S' := ⟨[(6, eS 7 eItem ([] : List Item)), (7, vi v4)], []⟩) (Sees.trans (Sees.vco (fr' := [(6, eS 7 eItem ([] : List Item)), (7, vi v4)]) (.cons .sl (.cons .same .nil))) (sc [] (by decide) (by kernel_rfl) ObRen.nil rfl rfl)) rfl rfl
  refine sj ?_
  refine rk 1 (.k3 (.i 21 (eS 7 eItem a1) .n)) ?_
  refine jo 22 (.len 0 21) (ok_len_m rfl) ?_
  refine jo 23 (.bin .geq false 22 (ki 100)) (n_geq (i := a1.length) (j := 100) rfl rfl) ?_
  refine jk 1 (.d2 (.k3 (.i 20 (vb (decide (100 ≤ a1.length))) .n))) ?_
  refine tc h (fun c2 h => ?_) (fun c2 h => ?_)
  ·refine sk (.i 6 .emp (.i 7 (vi 8) .n)) ?_
   refine q3 ?_
   have h := si h
   subst h
   exact DoneS.ret (S' := ⟨[(6, eS 7 eItem ([] : List Item)), (7, vi 8)], []⟩) (Sees.trans (Sees.vco (fr' := [(6, eS 7 eItem ([] : List Item)), (7, vi 8)]) (.cons .sl (.cons .same .nil))) (sc [] (by decide) (by kernel_rfl) ObRen.nil rfl rfl)) rfl rfl
  refine q2 ?_
  refine sj ?_
  refine rk 3 (.i 24 (.p (.pointer none)) (.i 25 (eS 7 eItem a1) (.i 26 (.agg [vi a2.Kind, vi a2.From, vi a2.To, vt a2.Grand, vt a2.Place, vt a2.Who, vi a2.Deposit]) .n))) ?_
  refine bK h fun y5 hy5 h => ?_
  refine jc 27 [24, 25, 26] (diary_plan_add_ok n a1 a2 y5 hy5) ?_
  refine jk 4 (.i 6 (eS 7 eItem y5.2) (.i 7 (vi y5.1) .n)) ?_
  refine q3 ?_
  have h := si h
  subst h
  exact DoneS.ret (S' := ⟨[(6, eS 7 eItem y5.2), (7, vi y5.1)], []⟩) (sc [] (by decide) (by kernel_rfl) ObRen.nil rfl rfl) rfl rfl
 ·rintro ⟨v6, v7⟩ h
  refine q7 ?_
  refine sk (.k4 (.i 16 (vb (v6 != (0 : Int))) .n)) ?_
  refine tc h (fun c3 h => ?_) (fun c3 h => ?_)
  ·refine sk (.i 6 .emp (.i 7 (vi v6) .n)) ?_
   refine q3 ?_
   have h := si h
   subst h
   exact DoneS.ret (S' := ⟨[(6, eS 7 eItem ([] : List Item)), (7, vi v6)], []⟩) (Sees.trans (Sees.vco (fr' := [(6, eS 7 eItem ([] : List Item)), (7, vi v6)]) (.cons .sl (.cons .same .nil))) (sc [] (by decide) (by kernel_rfl) ObRen.nil rfl rfl)) rfl rfl
  refine sj ?_
  refine rk 1 (.k3 (.i 21 (eS 7 eItem a1) .n)) ?_
  refine jo 22 (.len 0 21) (ok_len_m rfl) ?_
  refine jo 23 (.bin .geq false 22 (ki 100)) (n_geq (i := a1.length) (j := 100) rfl rfl) ?_
  refine jk 1 (.d2 (.k3 (.i 20 (vb (decide (100 ≤ a1.length))) .n))) ?_
  refine tc h (fun c4 h => ?_) (fun c4 h => ?_)
  ·refine sk (.i 6 .emp (.i 7 (vi 8) .n)) ?_
   refine q3 ?_
   have h := si h
   subst h
   exact DoneS.ret (S' := ⟨[(6, eS 7 eItem ([] : List Item)), (7, vi 8)], []⟩) (Sees.trans (Sees.vco (fr' := [(6, eS 7 eItem ([] : List Item)), (7, vi 8)]) (.cons .sl (.cons .same .nil))) (sc [] (by decide) (by kernel_rfl) ObRen.nil rfl rfl)) rfl rfl
  refine q2 ?_
  refine sj ?_
  refine rk 3 (.i 24 (.ptr 2 0 0) (.i 25 (eS 7 eItem a1) (.i 26 (.agg [vi a2.Kind, vi a2.From, vi a2.To, vt a2.Grand, vt a2.Place, vt a2.Who, vi a2.Deposit]) .n))) ?_
  refine bK h fun y8 hy8 h => ?_
  refine jco (.tup [eS 7 eItem y8.2.2, vi y8.1]) 27 [24, 25, 26] (diary_plan_add_2_ok n a0.Places a0.Technicians a0.Roads a0.Grands a0.Change a0.Lasts v7 a1 a2 y8 hy8) [2, 1] rfl (.cons rfl (.same (mp_ren vi_frz (eM_frz eArr2_Str vi) _ _) .nil)) (.cons rfl (.same (mp_ren vi_frz (eM_frz eArr2_Str vi) _ _) .nil)) rfl ?_
  refine jk 4 (.i 6 (eS 7 eItem y8.2.2) (.i 7 (vi y8.1) .n)) ?_
  refine q3 ?_
  have h := si h
  subst h
  exact DoneS.ret (S' := ⟨[(6, eS 7 eItem y8.2.2), (7, vi y8.1)], []⟩) (sc [] (by decide) (by kernel_rfl) ObRen.nil rfl rfl) rfl rfl
 intro k1 k2 h
 refine q6 ?_
 refine rk 2 (.k (.d (.k (.i 11 (.agg [eS 1 vt a0.Places, eS 1 vt a0.Technicians, eS 4 eRoad a0.Roads, eS 3 eGrand a0.Grands, vi a0.Change, vi a0.Lasts]) (.i 12 (eS 7 eItem a1) .n))))) ?_
 refine bK h fun y1 hy1 h => ?_
 rcases y1 with y1 | y1
 ·dsimp only at h
  refine jc 13 [11, 12] (diary_read_ok n a0 a1 (Sum.inl y1) hy1) ?_
  refine jk 5 (.d (.k2 (.i 8 (.p (.pointer none)) (.i 9 (vi y1) .n)))) ?_
  exact Vs.intro (sc [1] (by decide) (by kernel_rfl) (.cons rfl .nil) rfl rfl) (.inl ⟨y1, rfl, h⟩)
 dsimp only at h
 refine jco (.tup [.ptr 3 0 0, vi y1.1]) 13 [11, 12] (diary_read_ok n a0 a1 (Sum.inr y1) hy1) [] rfl ObsRen.nil (.same (mp_ren vi_frz (eM_frz eArr2_Str vi) _ _) (.cons rfl .nil)) rfl ?_
 refine jk 5 (.d (.k2 (.i 8 (.ptr 3 0 0) (.i 9 (vi y1.1) .n)))) ?_
 exact Vs.intro (sc [1, 2, 3] (by decide) (by kernel_rfl) (.cons rfl (obRen_mp vi_frz (eM_frz eArr2_Str vi) rfl (.cons rfl .nil))) rfl rfl) (.inr ⟨(y1.1, y1.2), rfl, h⟩)
set_option maxHeartbeats 1000000 in
theorem agraffelaw09_DiaryApart_ok (n : Nat) (a0 : Diary) (a1 : List Item) (a2 : Item) (r : Bool) (h : agraffelaw09_DiaryApart n a0 a1 a2 = some r) : FnL Try.prog 4 [.agg [eS 1 vt a0.Places, eS 1 vt a0.Technicians, eS 4 eRoad a0.Roads, eS 3 eGrand a0.Grands, vi a0.Change, vi a0.Lasts], eS 7 eItem a1, .agg [vi a2.Kind, vi a2.From, vi a2.To, vt a2.Grand, vt a2.Place, vt a2.Who, vi a2.Deposit]] [] (vb r) [] := by
  dsimp only [agraffelaw09_DiaryApart] at h
  refine FnL.ofS (ts := [6]) Try.call4 Try.func4 rfl rfl (Nat.le_of_ble_eq_true rfl) (Nat.le_of_ble_eq_true rfl) (fun j h => absurd h (Nat.not_lt_zero j)) ?_
  show TriE _ _ _ _ _ (St.mk [(0, .agg [eS 1 vt a0.Places, eS 1 vt a0.Technicians, eS 4 eRoad a0.Roads, eS 3 eGrand a0.Grands, vi a0.Change, vi a0.Lasts]), (1, eS 7 eItem a1), (2, .agg [vi a2.Kind, vi a2.From, vi a2.To, vt a2.Grand, vt a2.Place, vt a2.Who, vi a2.Deposit])] []) _
  refine TriE.seq ?_
  refine TriE.run [(1, eS 7 eItem a1), (3, .ptr 0 0 0), (5, .ptr 1 0 0)] [some (.row 6 [.agg [eS 1 vt a0.Places, eS 1 vt a0.Technicians, eS 4 eRoad a0.Roads, eS 3 eGrand a0.Grands, vi a0.Change, vi a0.Lasts]]), some (.row 7 [.agg [vi a2.Kind, vi a2.From, vi a2.To, vt a2.Grand, vt a2.Place, vt a2.Who, vi a2.Deposit]])] (by kernel_rfl) ?_
  refine TriE.seq ?_
  refine TriE.seq ?_
  refine TriE.regJ ?_
  refine bK h fun y1 hy1 h => ?_
  refine RegJ.op (Op1.call (y' := vb y1) (obx := []) (oby := []) (ob2 := [some (.row 6 [.agg [eS 1 vt a0.Places, eS 1 vt a0.Technicians, eS 4 eRoad a0.Roads, eS 3 eGrand a0.Grands, vi a0.Change, vi a0.Lasts]]), some (.row 7 [.agg [vi a2.Kind, vi a2.From, vi a2.To, vt a2.Grand, vt a2.Place, vt a2.Who, vi a2.Deposit]])]) _ _ (cz (I0 18 (.call 13 [])) (by kernel_rfl)) rfl (agraffelaw09_awake_ok n y1 hy1) [] (by kernel_rfl) (.cons rfl .nil) (by kernel_rfl) (by kernel_rfl) ObsRen.nil (by kernel_rfl) ObsRen.nil (by kernel_rfl)) ?_
  refine jrd 1 [(1, eS 7 eItem a1), (3, .ptr 0 0 0), (5, .ptr 1 0 0), (19, vb (!y1))] [some (.row 6 [.agg [eS 1 vt a0.Places, eS 1 vt a0.Technicians, eS 4 eRoad a0.Roads, eS 3 eGrand a0.Grands, vi a0.Change, vi a0.Lasts]]), some (.row 7 [.agg [vi a2.Kind, vi a2.From, vi a2.To, vt a2.Grand, vt a2.Place, vt a2.Who, vi a2.Deposit]])] (by kernel_rfl) rfl ?_
  refine TriE.cond (b := !y1) rfl (fun c1 => ?_) (fun c1 => ?_)
  · have h := cond_t h c1
    refine TriE.seq ?_
    refine TriE.run [(6, vb false)] [some (.row 6 [.agg [eS 1 vt a0.Places, eS 1 vt a0.Technicians, eS 4 eRoad a0.Roads, eS 3 eGrand a0.Grands, vi a0.Change, vi a0.Lasts]]), some (.row 7 [.agg [vi a2.Kind, vi a2.From, vi a2.To, vt a2.Grand, vt a2.Place, vt a2.Who, vi a2.Deposit]])] (by kernel_rfl) ?_
    refine TriE.ret ?_
    have h := Option.some.inj h
    subst h
    exact DoneS.ret (S' := ⟨[(6, vb false)], []⟩) (sc [] (by decide) (by kernel_rfl) ObRen.nil rfl rfl) rfl rfl
  have h := cond_f h c1
  refine TriE.skip ?_
  refine TriE.seq ?_
  refine TriE.seq ?_
  refine TriE.regJ ?_
  refine RegJ.run 1 [(1, eS 7 eItem a1), (3, .ptr 0 0 0), (5, .ptr 1 0 0), (20, .agg [eS 1 vt a0.Places, eS 1 vt a0.Technicians, eS 4 eRoad a0.Roads, eS 3 eGrand a0.Grands, vi a0.Change, vi a0.Lasts])] [some (.row 6 [.agg [eS 1 vt a0.Places, eS 1 vt a0.Technicians, eS 4 eRoad a0.Roads, eS 3 eGrand a0.Grands, vi a0.Change, vi a0.Lasts]]), some (.row 7 [.agg [vi a2.Kind, vi a2.From, vi a2.To, vt a2.Grand, vt a2.Place, vt a2.Who, vi a2.Deposit]])] (by kernel_rfl) ?_
  refine bK h fun y2 hy2 h => ?_
  refine RegJ.op (Op1.call (y' := vb y2) (obx := []) (oby := []) (ob2 := [some (.row 6 [.agg [eS 1 vt a0.Places, eS 1 vt a0.Technicians, eS 4 eRoad a0.Roads, eS 3 eGrand a0.Grands, vi a0.Change, vi a0.Lasts]]), some (.row 7 [.agg [vi a2.Kind, vi a2.From, vi a2.To, vt a2.Grand, vt a2.Place, vt a2.Who, vi a2.Deposit]])]) _ _ (cz (I0 21 (.call 14 [(.t 20)])) (by kernel_rfl)) rfl (agraffelaw09_Light_ok n a0 y2 hy2) [] (by kernel_rfl) (.cons rfl (.cons rfl .nil)) (by kernel_rfl) (by kernel_rfl) ObsRen.nil (by kernel_rfl) ObsRen.nil (by kernel_rfl)) ?_
  refine RegJ.run 2 [(1, eS 7 eItem a1), (3, .ptr 0 0 0), (5, .ptr 1 0 0), (23, vb (!y2))] [some (.row 6 [.agg [eS 1 vt a0.Places, eS 1 vt a0.Technicians, eS 4 eRoad a0.Roads, eS 3 eGrand a0.Grands, vi a0.Change, vi a0.Lasts]]), some (.row 7 [.agg [vi a2.Kind, vi a2.From, vi a2.To, vt a2.Grand, vt a2.Place, vt a2.Who, vi a2.Deposit]])] (by kernel_rfl) ?_
  refine RegJ.op (Op1.valk (g := !(!y2)) (v := eS 7 eItem a1) _ _ (cz (IG 24 (.mov (.t 1)) 23 false) (by kernel_rfl)) rfl (by kernel_rfl) (fun hg => (.cons rfl .nil))) ?_
  refine bK h fun y3 hy3 h => ?_
  refine RegJ.op (Op1.callg (g := !(!y2)) (y' := vb y3) (obx := []) _ _ (cz (IG 25 (.call 21 [(.t 24)]) 23 false) (by kernel_rfl)) rfl (fun hg => agraffelaw09_Few_ok n a1 y3 (gcall_some hy3 hg)) [] (fun hg => by kernel_rfl) (fun hg => (.cons rfl (.cons hg .nil))) (by kernel_rfl) (by kernel_rfl) ObsRen.nil (by kernel_rfl) (by kernel_rfl)) ?_
  refine RegJ.op (Op1.valk (g := !(!y2)) (v := vb (!y3)) _ _ (cz (IG 26 (.un .not (.t 25)) 23 false) (by kernel_rfl)) rfl (by kernel_rfl) (fun hg => (.cons hg .nil))) ?_
  refine RegJ.op (Op1.or (cz (I0 27 (.pick (.t 23) (.c (.p (.bool true))) (.t 26))) (by kernel_rfl)) rfl rfl (by first | exact hokO1 | exact hokO0 | simp)) ?_
  refine RegJ.run 1 [(1, eS 7 eItem a1), (3, .ptr 0 0 0), (5, .ptr 1 0 0), (28, vb ((!y2) || (!y3)))] [some (.row 6 [.agg [eS 1 vt a0.Places, eS 1 vt a0.Technicians, eS 4 eRoad a0.Roads, eS 3 eGrand a0.Grands, vi a0.Change, vi a0.Lasts]]), some (.row 7 [.agg [vi a2.Kind, vi a2.From, vi a2.To, vt a2.Grand, vt a2.Place, vt a2.Who, vi a2.Deposit]])] (by kernel_rfl) ?_
  refine RegJ.op (Op1.valk (g := !((!y2) || (!y3))) (v := .agg [vi a2.Kind, vi a2.From, vi a2.To, vt a2.Grand, vt a2.Place, vt a2.Who, vi a2.Deposit]) _ _ (cz (IG 29 (.load true 7 (.t 5)) 28 false) (by kernel_rfl)) rfl (by kernel_rfl) (fun hg => (.cons rfl .nil))) ?_
  refine bK h fun y4 hy4 h => ?_
  refine RegJ.op (Op1.callg (g := !((!y2) || (!y3))) (y' := vb (((decide (a2.Grand.length ≤ 30)) && (decide (a2.Place.length ≤ 30))) && (decide (a2.Who.length ≤ 30)))) (obx := []) _ _ (cz (IG 30 (.call 15 [(.t 29)]) 28 false) (by kernel_rfl)) rfl (fun hg => agraffelaw09_slim_ok n a2 y4 (gcall_some hy4 hg)) [] (fun hg => by kernel_rfl) (fun hg => (.cons rfl (.cons hg .nil))) (by kernel_rfl) (by kernel_rfl) ObsRen.nil (by kernel_rfl) (by kernel_rfl)) ?_
  refine RegJ.op (Op1.valk (g := !((!y2) || (!y3))) (v := vb (!(((decide (a2.Grand.length ≤ 30)) && (decide (a2.Place.length ≤ 30))) && (decide (a2.Who.length ≤ 30))))) _ _ (cz (IG 31 (.un .not (.t 30)) 28 false) (by kernel_rfl)) rfl (by kernel_rfl) (fun hg => (.cons hg .nil))) ?_
  refine RegJ.op (Op1.or (cz (I0 32 (.pick (.t 28) (.c (.p (.bool true))) (.t 31))) (by kernel_rfl)) rfl rfl (by first | exact hokO1 | exact hokO0 | simp)) ?_
  refine jd [(1, eS 7 eItem a1), (3, .ptr 0 0 0), (5, .ptr 1 0 0), (32, vb (((!y2) || (!y3)) || (!(((decide (a2.Grand.length ≤ 30)) && (decide (a2.Place.length ≤ 30))) && (decide (a2.Who.length ≤ 30))))))] (by kernel_rfl) rfl ?_
  refine TriE.cond (b := ((!y2) || (!y3)) || (!(((decide (a2.Grand.length ≤ 30)) && (decide (a2.Place.length ≤ 30))) && (decide (a2.Who.length ≤ 30))))) rfl (fun c2 => ?_) (fun c2 => ?_)
  · have h := cond_t h c2
    refine TriE.seq ?_
    refine TriE.run [(6, vb true)] [some (.row 6 [.agg [eS 1 vt a0.Places, eS 1 vt a0.Technicians, eS 4 eRoad a0.Roads, eS 3 eGrand a0.Grands, vi a0.Change, vi a0.Lasts]]), some (.row 7 [.agg [vi a2.Kind, vi a2.From, vi a2.To, vt a2.Grand, vt a2.Place, vt a2.Who, vi a2.Deposit]])] (by kernel_rfl) ?_
    refine TriE.ret ?_
    have h := Option.some.inj h
    subst h
    exact DoneS.ret (S' := ⟨[(6, vb true)], []⟩) (sc [] (by decide) (by kernel_rfl) ObRen.nil rfl rfl) rfl rfl
  have h := cond_f h c2
  refine TriE.skip ?_
  refine TriE.seq ?_
  refine TriE.seq ?_
  refine TriE.regJ ?_
  refine RegJ.run 1 [(1, eS 7 eItem a1), (3, .ptr 0 0 0), (5, .ptr 1 0 0), (34, .agg [eS 1 vt a0.Places, eS 1 vt a0.Technicians, eS 4 eRoad a0.Roads, eS 3 eGrand a0.Grands, vi a0.Change, vi a0.Lasts])] [some (.row 6 [.agg [eS 1 vt a0.Places, eS 1 vt a0.Technicians, eS 4 eRoad a0.Roads, eS 3 eGrand a0.Grands, vi a0.Change, vi a0.Lasts]]), some (.row 7 [.agg [vi a2.Kind, vi a2.From, vi a2.To, vt a2.Grand, vt a2.Place, vt a2.Who, vi a2.Deposit]])] (by kernel_rfl) ?_
  refine bK h fun y5 hy5 h => ?_
  refine RegJ.op (Op1.call (y' := .agg [eS 1 vt a0.Places, eS 1 vt a0.Technicians, eS 4 eRoad a0.Roads, eS 3 eGrand a0.Grands, vi a0.Change, vi a0.Lasts]) (obx := []) (oby := []) (ob2 := [some (.row 6 [.agg [eS 1 vt a0.Places, eS 1 vt a0.Technicians, eS 4 eRoad a0.Roads, eS 3 eGrand a0.Grands, vi a0.Change, vi a0.Lasts]]), some (.row 7 [.agg [vi a2.Kind, vi a2.From, vi a2.To, vt a2.Grand, vt a2.Place, vt a2.Who, vi a2.Deposit]])]) _ _ (cz (I0 35 (.call 18 [(.t 34)])) (by kernel_rfl)) rfl (agraffelaw09_town_ok n a0 y5 hy5) [] (by kernel_rfl) (.cons rfl (.cons rfl .nil)) (by kernel_rfl) (by kernel_rfl) ObsRen.nil (by kernel_rfl) ObsRen.nil (by kernel_rfl)) ?_
  refine RegJ.run 1 [(1, eS 7 eItem a1), (3, .ptr 0 0 0), (5, .ptr 1 0 0), (35, .agg [eS 1 vt a0.Places, eS 1 vt a0.Technicians, eS 4 eRoad a0.Roads, eS 3 eGrand a0.Grands, vi a0.Change, vi a0.Lasts]), (36, eS 7 eItem a1)] [some (.row 6 [.agg [eS 1 vt a0.Places, eS 1 vt a0.Technicians, eS 4 eRoad a0.Roads, eS 3 eGrand a0.Grands, vi a0.Change, vi a0.Lasts]]), some (.row 7 [.agg [vi a2.Kind, vi a2.From, vi a2.To, vt a2.Grand, vt a2.Place, vt a2.Who, vi a2.Deposit]])] (by kernel_rfl) ?_
  refine bK h fun y6 hy6 h => ?_
  refine RegJ.op (Op1.call (y' := .own 2 0 a1.length) (obx := []) (oby := [some (.row 7 (List.map eItem a1))]) (ob2 := [some (.row 6 [.agg [eS 1 vt a0.Places, eS 1 vt a0.Technicians, eS 4 eRoad a0.Roads, eS 3 eGrand a0.Grands, vi a0.Change, vi a0.Lasts]]), some (.row 7 [.agg [vi a2.Kind, vi a2.From, vi a2.To, vt a2.Grand, vt a2.Place, vt a2.Who, vi a2.Deposit]]), some (.row 7 (List.map eItem a1))]) _ _ (cz (I0 37 (.call 23 [(.t 36)])) (by kernel_rfl)) rfl (agraffelaw09_items_ok n a1 y6 hy6) [] (by kernel_rfl) (.cons rfl (.cons rfl .nil)) (by kernel_rfl) (by kernel_rfl) ObsRen.nil (by kernel_rfl) (.same (row_ren eItem_frz _ _ _) .nil) (by kernel_rfl)) ?_
  refine RegJ.sees (Sees.freeze 2 (fr' := [(1, eS 7 eItem a1), (3, .ptr 0 0 0), (5, .ptr 1 0 0), (35, .agg [eS 1 vt a0.Places, eS 1 vt a0.Technicians, eS 4 eRoad a0.Roads, eS 3 eGrand a0.Grands, vi a0.Change, vi a0.Lasts]), (36, eS 7 eItem a1), (37, eS 7 eItem a1)]) (ob' := [some (.row 6 [.agg [eS 1 vt a0.Places, eS 1 vt a0.Technicians, eS 4 eRoad a0.Roads, eS 3 eGrand a0.Grands, vi a0.Change, vi a0.Lasts]]), some (.row 7 [.agg [vi a2.Kind, vi a2.From, vi a2.To, vt a2.Grand, vt a2.Place, vt a2.Who, vi a2.Deposit]]), none]) rfl (frz_row eItem_frzE _) (.cons (.refl _) (.cons (.refl _) (.cons (.refl _) (.cons (.refl _) (.cons (.refl _) (.cons (frz_full rfl) .nil)))))) rfl) ?_
  refine bK h fun y7 hy7 h => ?_
  refine RegJ.op (Op1.call (y' := .tup [vi y7.2, vi y7.1]) (obx := []) (oby := []) (ob2 := [some (.row 6 [.agg [eS 1 vt a0.Places, eS 1 vt a0.Technicians, eS 4 eRoad a0.Roads, eS 3 eGrand a0.Grands, vi a0.Change, vi a0.Lasts]]), some (.row 7 [.agg [vi a2.Kind, vi a2.From, vi a2.To, vt a2.Grand, vt a2.Place, vt a2.Who, vi a2.Deposit]]), none]) _ _ (cz (I0 38 (.call 22 [(.t 35), (.t 37)])) (by kernel_rfl)) rfl (diary_Accept_ok n a0 a1 y7 hy7) [] (by kernel_rfl) (.cons rfl (.cons rfl (.cons rfl .nil))) (by kernel_rfl) (by kernel_rfl) ObsRen.nil (by kernel_rfl) ObsRen.nil (by kernel_rfl)) ?_
  refine jrd 5 [(1, eS 7 eItem a1), (3, .ptr 0 0 0), (5, .ptr 1 0 0), (8, vi y7.1)] [some (.row 6 [.agg [eS 1 vt a0.Places, eS 1 vt a0.Technicians, eS 4 eRoad a0.Roads, eS 3 eGrand a0.Grands, vi a0.Change, vi a0.Lasts]]), some (.row 7 [.agg [vi a2.Kind, vi a2.From, vi a2.To, vt a2.Grand, vt a2.Place, vt a2.Who, vi a2.Deposit]]), none] (by kernel_rfl) rfl ?_
  refine TriE.seq ?_
  refine TriE.run [(1, eS 7 eItem a1), (3, .ptr 0 0 0), (5, .ptr 1 0 0), (42, vb (y7.1 != (0 : Int)))] [some (.row 6 [.agg [eS 1 vt a0.Places, eS 1 vt a0.Technicians, eS 4 eRoad a0.Roads, eS 3 eGrand a0.Grands, vi a0.Change, vi a0.Lasts]]), some (.row 7 [.agg [vi a2.Kind, vi a2.From, vi a2.To, vt a2.Grand, vt a2.Place, vt a2.Who, vi a2.Deposit]]), none] (by kernel_rfl) ?_
  refine TriE.cond (b := (y7.1 != (0 : Int))) rfl (fun c3 => ?_) (fun c3 => ?_)
  · have h := cond_t h c3
    refine TriE.seq ?_
    refine TriE.run [(6, vb true)] [some (.row 6 [.agg [eS 1 vt a0.Places, eS 1 vt a0.Technicians, eS 4 eRoad a0.Roads, eS 3 eGrand a0.Grands, vi a0.Change, vi a0.Lasts]]), some (.row 7 [.agg [vi a2.Kind, vi a2.From, vi a2.To, vt a2.Grand, vt a2.Place, vt a2.Who, vi a2.Deposit]]), none] (by kernel_rfl) ?_
    refine TriE.ret ?_
    have h := Option.some.inj h
    subst h
    exact DoneS.ret (S' := ⟨[(6, vb true)], []⟩) (sc [] (by decide) (by kernel_rfl) ObRen.nil rfl rfl) rfl rfl
  have h := cond_f h c3
  refine TriE.skip ?_
  refine TriE.seqK h (fun (_ : Unit) => St.mk [(1, eS 7 eItem a1), (3, .ptr 0 0 0), (5, .ptr 1 0 0)] [some (.row 6 [.agg [eS 1 vt a0.Places, eS 1 vt a0.Technicians, eS 4 eRoad a0.Roads, eS 3 eGrand a0.Grands, vi a0.Change, vi a0.Lasts]]), some (.row 7 [.agg [vi a2.Kind, vi a2.From, vi a2.To, vt a2.Grand, vt a2.Place, vt a2.Who, vi a2.Deposit]])]) ?_ ?_
  · rintro ⟨⟩ h
    show TriE _ _ _ _ _ (St.mk [(1, eS 7 eItem a1), (3, .ptr 0 0 0), (5, .ptr 1 0 0)] [some (.row 6 [.agg [eS 1 vt a0.Places, eS 1 vt a0.Technicians, eS 4 eRoad a0.Roads, eS 3 eGrand a0.Grands, vi a0.Change, vi a0.Lasts]]), some (.row 7 [.agg [vi a2.Kind, vi a2.From, vi a2.To, vt a2.Grand, vt a2.Place, vt a2.Who, vi a2.Deposit]])]) _
    refine TriE.seq ?_
    refine TriE.sees (Sees.less (fr' := [(1, eS 7 eItem a1), (3, .ptr 0 0 0), (5, .ptr 1 0 0)]) (.cons rfl (.cons rfl (.cons rfl .nil)))) ?_
    refine TriE.draw (by kernel_rfl) ?_
    refine RegD.run 1 [(134, .agg [eS 1 vt a0.Places, eS 1 vt a0.Technicians, eS 4 eRoad a0.Roads, eS 3 eGrand a0.Grands, vi a0.Change, vi a0.Lasts]), (1, eS 7 eItem a1), (3, .ptr 0 0 0), (5, .ptr 1 0 0)] [some (.row 6 [.agg [eS 1 vt a0.Places, eS 1 vt a0.Technicians, eS 4 eRoad a0.Roads, eS 3 eGrand a0.Grands, vi a0.Change, vi a0.Lasts]]), some (.row 7 [.agg [vi a2.Kind, vi a2.From, vi a2.To, vt a2.Grand, vt a2.Place, vt a2.Who, vi a2.Deposit]]), none] (by kernel_rfl) ?_
    refine bK h fun y16 hy16 h => ?_
    refine RegD.op (OpD.call (y' := .agg [eS 1 vt a0.Places, eS 1 vt a0.Technicians, eS 4 eRoad a0.Roads, eS 3 eGrand a0.Grands, vi a0.Change, vi a0.Lasts]) (obx := []) (oby := []) (ob2 := [some (.row 6 [.agg [eS 1 vt a0.Places, eS 1 vt a0.Technicians, eS 4 eRoad a0.Roads, eS 3 eGrand a0.Grands, vi a0.Change, vi a0.Lasts]]), some (.row 7 [.agg [vi a2.Kind, vi a2.From, vi a2.To, vt a2.Grand, vt a2.Place, vt a2.Who, vi a2.Deposit]]), none, none]) (tch := []) 0 _ _ (cz (I0 135 (.call 18 [(.t 134)])) (by kernel_rfl)) (agraffelaw09_town_ok n a0 y16 hy16) [] (by kernel_rfl) (.cons rfl (.cons rfl .nil)) (by kernel_rfl) (by kernel_rfl) ObsRen.nil (by kernel_rfl) ObsRen.nil (by kernel_rfl) rfl (.inr ⟨rfl, rfl⟩)) ?_
    refine RegD.run 1 [(136, eS 7 eItem a1), (135, .agg [eS 1 vt a0.Places, eS 1 vt a0.Technicians, eS 4 eRoad a0.Roads, eS 3 eGrand a0.Grands, vi a0.Change, vi a0.Lasts]), (134, .agg [eS 1 vt a0.Places, eS 1 vt a0.Technicians, eS 4 eRoad a0.Roads, eS 3 eGrand a0.Grands, vi a0.Change, vi a0.Lasts]), (1, eS 7 eItem a1), (3, .ptr 0 0 0), (5, .ptr 1 0 0)] [some (.row 6 [.agg [eS 1 vt a0.Places, eS 1 vt a0.Technicians, eS 4 eRoad a0.Roads, eS 3 eGrand a0.Grands, vi a0.Change, vi a0.Lasts]]), some (.row 7 [.agg [vi a2.Kind, vi a2.From, vi a2.To, vt a2.Grand, vt a2.Place, vt a2.Who, vi a2.Deposit]]), none, none, none] (by kernel_rfl) ?_
    refine bK h fun y17 hy17 h => ?_
    refine RegD.op (OpD.call (y' := eS 7 eItem a1) (obx := []) (oby := []) (ob2 := [some (.row 6 [.agg [eS 1 vt a0.Places, eS 1 vt a0.Technicians, eS 4 eRoad a0.Roads, eS 3 eGrand a0.Grands, vi a0.Change, vi a0.Lasts]]), some (.row 7 [.agg [vi a2.Kind, vi a2.From, vi a2.To, vt a2.Grand, vt a2.Place, vt a2.Who, vi a2.Deposit]]), none, none, none, none]) (tch := []) 0 _ _ (cz (I0 137 (.call 23 [(.t 136)])) (by kernel_rfl)) (agraffelaw09_items_2_ok n a1 y17 hy17) [] (by kernel_rfl) (.cons rfl (.cons rfl .nil)) (by kernel_rfl) (by kernel_rfl) ObsRen.nil (by kernel_rfl) ObsRen.nil (by kernel_rfl) rfl (.inr ⟨rfl, rfl⟩)) ?_
    refine RegD.run 1 [(138, .agg [vi a2.Kind, vi a2.From, vi a2.To, vt a2.Grand, vt a2.Place, vt a2.Who, vi a2.Deposit]), (137, eS 7 eItem a1), (136, eS 7 eItem a1), (135, .agg [eS 1 vt a0.Places, eS 1 vt a0.Technicians, eS 4 eRoad a0.Roads, eS 3 eGrand a0.Grands, vi a0.Change, vi a0.Lasts]), (134, .agg [eS 1 vt a0.Places, eS 1 vt a0.Technicians, eS 4 eRoad a0.Roads, eS 3 eGrand a0.Grands, vi a0.Change, vi a0.Lasts]), (1, eS 7 eItem a1), (3, .ptr 0 0 0), (5, .ptr 1 0 0)] [some (.row 6 [.agg [eS 1 vt a0.Places, eS 1 vt a0.Technicians, eS 4 eRoad a0.Roads, eS 3 eGrand a0.Grands, vi a0.Change, vi a0.Lasts]]), some (.row 7 [.agg [vi a2.Kind, vi a2.From, vi a2.To, vt a2.Grand, vt a2.Place, vt a2.Who, vi a2.Deposit]]), none, none, none, none, none] (by kernel_rfl) ?_
    refine bK h fun y18 hy18 h => ?_
    refine RegD.op (OpD.call (y' := .tup [vi y18.2, vi y18.1]) (obx := []) (oby := []) (ob2 := [some (.row 6 [.agg [eS 1 vt a0.Places, eS 1 vt a0.Technicians, eS 4 eRoad a0.Roads, eS 3 eGrand a0.Grands, vi a0.Change, vi a0.Lasts]]), some (.row 7 [.agg [vi a2.Kind, vi a2.From, vi a2.To, vt a2.Grand, vt a2.Place, vt a2.Who, vi a2.Deposit]]), none, none, none, none, none, none]) (tch := []) 0 _ _ (cz (I0 139 (.call 24 [(.t 135), (.t 137), (.t 138)])) (by kernel_rfl)) (diary_FreeFrom_ok n a0 a1 a2 y18 hy18) [] (by kernel_rfl) (.cons rfl (.cons rfl (.cons rfl (.cons rfl .nil)))) (by kernel_rfl) (by kernel_rfl) ObsRen.nil (by kernel_rfl) ObsRen.nil (by kernel_rfl) rfl (.inr ⟨rfl, rfl⟩)) ?_
    refine RegD.run 5 [(15, vi y18.1), (14, vi y18.2), (141, vi y18.1), (140, vi y18.2), (133, .tup [vi y18.2, vi y18.1]), (139, .tup [vi y18.2, vi y18.1]), (138, .agg [vi a2.Kind, vi a2.From, vi a2.To, vt a2.Grand, vt a2.Place, vt a2.Who, vi a2.Deposit]), (137, eS 7 eItem a1), (136, eS 7 eItem a1), (135, .agg [eS 1 vt a0.Places, eS 1 vt a0.Technicians, eS 4 eRoad a0.Roads, eS 3 eGrand a0.Grands, vi a0.Change, vi a0.Lasts]), (134, .agg [eS 1 vt a0.Places, eS 1 vt a0.Technicians, eS 4 eRoad a0.Roads, eS 3 eGrand a0.Grands, vi a0.Change, vi a0.Lasts]), (1, eS 7 eItem a1), (3, .ptr 0 0 0), (5, .ptr 1 0 0)] [some (.row 6 [.agg [eS 1 vt a0.Places, eS 1 vt a0.Technicians, eS 4 eRoad a0.Roads, eS 3 eGrand a0.Grands, vi a0.Change, vi a0.Lasts]]), some (.row 7 [.agg [vi a2.Kind, vi a2.From, vi a2.To, vt a2.Grand, vt a2.Place, vt a2.Who, vi a2.Deposit]]), none, none, none, none, none, none, none, none, none, none, none] (by kernel_rfl) ?_
    refine RegD.done rfl (by kernel_rfl) (S' := ⟨[(1, eS 7 eItem a1), (3, .ptr 0 0 0), (5, .ptr 1 0 0), (14, vi y18.2), (15, vi y18.1)], [some (.row 6 [.agg [eS 1 vt a0.Places, eS 1 vt a0.Technicians, eS 4 eRoad a0.Roads, eS 3 eGrand a0.Grands, vi a0.Change, vi a0.Lasts]]), some (.row 7 [.agg [vi a2.Kind, vi a2.From, vi a2.To, vt a2.Grand, vt a2.Place, vt a2.Who, vi a2.Deposit]])]⟩) (sc [0, 1] (by decide) (by kernel_rfl) (.cons rfl (.cons rfl .nil)) rfl rfl) ?_
    refine TriE.seq ?_
    refine TriE.seq ?_
    refine TriE.run [(1, eS 7 eItem a1), (3, .ptr 0 0 0), (5, .ptr 1 0 0), (14, vi y18.2), (143, vb (y18.1 != (0 : Int)))] [some (.row 6 [.agg [eS 1 vt a0.Places, eS 1 vt a0.Technicians, eS 4 eRoad a0.Roads, eS 3 eGrand a0.Grands, vi a0.Change, vi a0.Lasts]]), some (.row 7 [.agg [vi a2.Kind, vi a2.From, vi a2.To, vt a2.Grand, vt a2.Place, vt a2.Who, vi a2.Deposit]])] (by kernel_rfl) ?_
    refine TriE.cond (b := (y18.1 != (0 : Int))) rfl (fun c16 => ?_) (fun c16 => ?_)
    · have h := cond_t h c16
      refine TriE.seq ?_
      refine TriE.run [(6, vb true)] [some (.row 6 [.agg [eS 1 vt a0.Places, eS 1 vt a0.Technicians, eS 4 eRoad a0.Roads, eS 3 eGrand a0.Grands, vi a0.Change, vi a0.Lasts]]), some (.row 7 [.agg [vi a2.Kind, vi a2.From, vi a2.To, vt a2.Grand, vt a2.Place, vt a2.Who, vi a2.Deposit]])] (by kernel_rfl) ?_
      refine TriE.ret ?_
      have h := Option.some.inj h
      subst h
      exact DoneS.ret (S' := ⟨[(6, vb true)], []⟩) (sc [] (by decide) (by kernel_rfl) ObRen.nil rfl rfl) rfl rfl
    have h := cond_f h c16
    refine TriE.skip ?_
    refine TriE.seq ?_
    refine TriE.seq ?_
    refine TriE.regJ ?_
    refine RegJ.run 5 [(1, eS 7 eItem a1), (3, .ptr 0 0 0), (5, .ptr 1 0 0), (14, vi y18.2), (148, vb (decide (y18.2 < a2.From)))] [some (.row 6 [.agg [eS 1 vt a0.Places, eS 1 vt a0.Technicians, eS 4 eRoad a0.Roads, eS 3 eGrand a0.Grands, vi a0.Change, vi a0.Lasts]]), some (.row 7 [.agg [vi a2.Kind, vi a2.From, vi a2.To, vt a2.Grand, vt a2.Place, vt a2.Who, vi a2.Deposit]])] (by kernel_rfl) ?_
    refine RegJ.op (Op1.valk (g := !(decide (y18.2 < a2.From))) (v := vi y18.2) _ _ (cz (IG 149 (.mov (.t 14)) 148 false) (by kernel_rfl)) rfl (by kernel_rfl) (fun hg => (.cons rfl .nil))) ?_
    refine RegJ.op (Op1.valk (g := !(decide (y18.2 < a2.From))) (v := vb (decide ((1000000 : Int) < y18.2))) _ _ (cz (IG 150 (.bin .gtr false (.t 149) (.c (.p (.int .i64 1000000)))) 148 false) (by kernel_rfl)) rfl (by kernel_rfl) (fun hg => (.cons hg (.cons rfl .nil)))) ?_
    refine RegJ.op (Op1.or (cz (I0 151 (.pick (.t 148) (.c (.p (.bool true))) (.t 150))) (by kernel_rfl)) rfl rfl (by first | exact hokO1 | exact hokO0 | simp)) ?_
    refine jd [(1, eS 7 eItem a1), (3, .ptr 0 0 0), (5, .ptr 1 0 0), (14, vi y18.2), (151, vb ((decide (y18.2 < a2.From)) || (decide ((1000000 : Int) < y18.2))))] (by kernel_rfl) rfl ?_
    refine TriE.cond (b := (decide (y18.2 < a2.From)) || (decide ((1000000 : Int) < y18.2))) rfl (fun c17 => ?_) (fun c17 => ?_)
    · have h := cond_t h c17
      refine TriE.seq ?_
      refine TriE.run [(6, vb false)] [some (.row 6 [.agg [eS 1 vt a0.Places, eS 1 vt a0.Technicians, eS 4 eRoad a0.Roads, eS 3 eGrand a0.Grands, vi a0.Change, vi a0.Lasts]]), some (.row 7 [.agg [vi a2.Kind, vi a2.From, vi a2.To, vt a2.Grand, vt a2.Place, vt a2.Who, vi a2.Deposit]])] (by kernel_rfl) ?_
      refine TriE.ret ?_
      have h := Option.some.inj h
      subst h
      exact DoneS.ret (S' := ⟨[(6, vb false)], []⟩) (sc [] (by decide) (by kernel_rfl) ObRen.nil rfl rfl) rfl rfl
    have h := cond_f h c17
    refine TriE.skip ?_
    refine TriE.seq ?_
    refine TriE.regJ ?_
    refine RegJ.run 4 [(1, eS 7 eItem a1), (3, .ptr 0 0 0), (5, .ptr 1 0 0), (152, vi y18.2), (153, vi y18.2), (155, vi a2.To)] [some (.row 6 [.agg [eS 1 vt a0.Places, eS 1 vt a0.Technicians, eS 4 eRoad a0.Roads, eS 3 eGrand a0.Grands, vi a0.Change, vi a0.Lasts]]), some (.row 7 [.agg [vi a2.Kind, vi a2.From, vi a2.To, vt a2.Grand, vt a2.Place, vt a2.Who, vi a2.Deposit]])] (by kernel_rfl) ?_
    refine cK h fun c18 h => ?_
    refine jv (vi (y18.2 + a2.To)) (cz (I0 156 (.bin .add false (.t 153) (.t 155))) (by kernel_rfl)) (r_add rfl rfl c18) rfl ?_
    refine RegJ.run 2 [(1, eS 7 eItem a1), (3, .ptr 0 0 0), (5, .ptr 1 0 0), (152, vi y18.2), (156, vi (y18.2 + a2.To)), (158, vi a2.From)] [some (.row 6 [.agg [eS 1 vt a0.Places, eS 1 vt a0.Technicians, eS 4 eRoad a0.Roads, eS 3 eGrand a0.Grands, vi a0.Change, vi a0.Lasts]]), some (.row 7 [.agg [vi a2.Kind, vi a2.From, vi a2.To, vt a2.Grand, vt a2.Place, vt a2.Who, vi a2.Deposit]])] (by kernel_rfl) ?_
    refine cK h fun c19 h => ?_
    refine jv (vi ((y18.2 + a2.To) - a2.From)) (cz (I0 159 (.bin .sub false (.t 156) (.t 158))) (by kernel_rfl)) (r_sub rfl rfl c19) rfl ?_
    refine jrd 4 [(1, eS 7 eItem a1), (3, .ptr 0 0 0), (5, .ptr 1 0 0)] [some (.row 6 [.agg [eS 1 vt a0.Places, eS 1 vt a0.Technicians, eS 4 eRoad a0.Roads, eS 3 eGrand a0.Grands, vi a0.Change, vi a0.Lasts]]), some (.row 7 [.agg [vi a2.Kind, vi y18.2, vi ((y18.2 + a2.To) - a2.From), vt a2.Grand, vt a2.Place, vt a2.Who, vi a2.Deposit]])] (by kernel_rfl) rfl ?_
    refine TriE.seq ?_
    refine TriE.sees (Sees.less (fr' := [(1, eS 7 eItem a1), (3, .ptr 0 0 0), (5, .ptr 1 0 0)]) (.cons rfl (.cons rfl (.cons rfl .nil)))) ?_
    refine TriE.draw (by kernel_rfl) ?_
    refine RegD.run 1 [(163, .agg [eS 1 vt a0.Places, eS 1 vt a0.Technicians, eS 4 eRoad a0.Roads, eS 3 eGrand a0.Grands, vi a0.Change, vi a0.Lasts]), (1, eS 7 eItem a1), (3, .ptr 0 0 0), (5, .ptr 1 0 0)] [some (.row 6 [.agg [eS 1 vt a0.Places, eS 1 vt a0.Technicians, eS 4 eRoad a0.Roads, eS 3 eGrand a0.Grands, vi a0.Change, vi a0.Lasts]]), some (.row 7 [.agg [vi a2.Kind, vi y18.2, vi ((y18.2 + a2.To) - a2.From), vt a2.Grand, vt a2.Place, vt a2.Who, vi a2.Deposit]]), none] (by kernel_rfl) ?_
    refine bK h fun y19 hy19 h => ?_
    refine RegD.op (OpD.call (y' := .agg [eS 1 vt a0.Places, eS 1 vt a0.Technicians, eS 4 eRoad a0.Roads, eS 3 eGrand a0.Grands, vi a0.Change, vi a0.Lasts]) (obx := []) (oby := []) (ob2 := [some (.row 6 [.agg [eS 1 vt a0.Places, eS 1 vt a0.Technicians, eS 4 eRoad a0.Roads, eS 3 eGrand a0.Grands, vi a0.Change, vi a0.Lasts]]), some (.row 7 [.agg [vi a2.Kind, vi y18.2, vi ((y18.2 + a2.To) - a2.From), vt a2.Grand, vt a2.Place, vt a2.Who, vi a2.Deposit]]), none, none]) (tch := []) 0 _ _ (cz (I0 164 (.call 18 [(.t 163)])) (by kernel_rfl)) (agraffelaw09_town_ok n a0 y19 hy19) [] (by kernel_rfl) (.cons rfl (.cons rfl .nil)) (by kernel_rfl) (by kernel_rfl) ObsRen.nil (by kernel_rfl) ObsRen.nil (by kernel_rfl) rfl (.inr ⟨rfl, rfl⟩)) ?_
    refine RegD.run 1 [(165, eS 7 eItem a1), (164, .agg [eS 1 vt a0.Places, eS 1 vt a0.Technicians, eS 4 eRoad a0.Roads, eS 3 eGrand a0.Grands, vi a0.Change, vi a0.Lasts]), (163, .agg [eS 1 vt a0.Places, eS 1 vt a0.Technicians, eS 4 eRoad a0.Roads, eS 3 eGrand a0.Grands, vi a0.Change, vi a0.Lasts]), (1, eS 7 eItem a1), (3, .ptr 0 0 0), (5, .ptr 1 0 0)] [some (.row 6 [.agg [eS 1 vt a0.Places, eS 1 vt a0.Technicians, eS 4 eRoad a0.Roads, eS 3 eGrand a0.Grands, vi a0.Change, vi a0.Lasts]]), some (.row 7 [.agg [vi a2.Kind, vi y18.2, vi ((y18.2 + a2.To) - a2.From), vt a2.Grand, vt a2.Place, vt a2.Who, vi a2.Deposit]]), none, none, none] (by kernel_rfl) ?_
    refine bK h fun y20 hy20 h => ?_
    refine RegD.op (OpD.call (y' := eS 7 eItem a1) (obx := []) (oby := []) (ob2 := [some (.row 6 [.agg [eS 1 vt a0.Places, eS 1 vt a0.Technicians, eS 4 eRoad a0.Roads, eS 3 eGrand a0.Grands, vi a0.Change, vi a0.Lasts]]), some (.row 7 [.agg [vi a2.Kind, vi y18.2, vi ((y18.2 + a2.To) - a2.From), vt a2.Grand, vt a2.Place, vt a2.Who, vi a2.Deposit]]), none, none, none, none]) (tch := []) 0 _ _ (cz (I0 166 (.call 23 [(.t 165)])) (by kernel_rfl)) (agraffelaw09_items_2_ok n a1 y20 hy20) [] (by kernel_rfl) (.cons rfl (.cons rfl .nil)) (by kernel_rfl) (by kernel_rfl) ObsRen.nil (by kernel_rfl) ObsRen.nil (by kernel_rfl) rfl (.inr ⟨rfl, rfl⟩)) ?_
    refine RegD.run 1 [(167, .agg [vi a2.Kind, vi y18.2, vi ((y18.2 + a2.To) - a2.From), vt a2.Grand, vt a2.Place, vt a2.Who, vi a2.Deposit]), (166, eS 7 eItem a1), (165, eS 7 eItem a1), (164, .agg [eS 1 vt a0.Places, eS 1 vt a0.Technicians, eS 4 eRoad a0.Roads, eS 3 eGrand a0.Grands, vi a0.Change, vi a0.Lasts]), (163, .agg [eS 1 vt a0.Places, eS 1 vt a0.Technicians, eS 4 eRoad a0.Roads, eS 3 eGrand a0.Grands, vi a0.Change, vi a0.Lasts]), (1, eS 7 eItem a1), (3, .ptr 0 0 0), (5, .ptr 1 0 0)] [some (.row 6 [.agg [eS 1 vt a0.Places, eS 1 vt a0.Technicians, eS 4 eRoad a0.Roads, eS 3 eGrand a0.Grands, vi a0.Change, vi a0.Lasts]]), some (.row 7 [.agg [vi a2.Kind, vi y18.2, vi ((y18.2 + a2.To) - a2.From), vt a2.Grand, vt a2.Place, vt a2.Who, vi a2.Deposit]]), none, none, none, none, none] (by kernel_rfl) ?_
    refine bK h fun y21 hy21 h => ?_
    refine RegD.op (OpD.call (y' := .tup [eS 7 eItem y21.2, vi y21.1]) (obx := []) (oby := []) (ob2 := [some (.row 6 [.agg [eS 1 vt a0.Places, eS 1 vt a0.Technicians, eS 4 eRoad a0.Roads, eS 3 eGrand a0.Grands, vi a0.Change, vi a0.Lasts]]), some (.row 7 [.agg [vi a2.Kind, vi y18.2, vi ((y18.2 + a2.To) - a2.From), vt a2.Grand, vt a2.Place, vt a2.Who, vi a2.Deposit]]), none, none, none, none, none, none]) (tch := []) 0 _ _ (cz (I0 168 (.call 25 [(.t 164), (.t 166), (.t 167)])) (by kernel_rfl)) (diary_Add_ok n a0 a1 (Item.mk a2.Kind y18.2 ((y18.2 + a2.To) - a2.From) a2.Grand a2.Place a2.Who a2.Deposit) y21 hy21) [] (by kernel_rfl) (.cons rfl (.cons rfl (.cons rfl (.cons rfl .nil)))) (by kernel_rfl) (by kernel_rfl) ObsRen.nil (by kernel_rfl) ObsRen.nil (by kernel_rfl) rfl (.inr ⟨rfl, rfl⟩)) ?_
    refine RegD.run 5 [(17, vi y21.1), (16, eS 7 eItem y21.2), (170, vi y21.1), (169, eS 7 eItem y21.2), (162, .tup [eS 7 eItem y21.2, vi y21.1]), (168, .tup [eS 7 eItem y21.2, vi y21.1]), (167, .agg [vi a2.Kind, vi y18.2, vi ((y18.2 + a2.To) - a2.From), vt a2.Grand, vt a2.Place, vt a2.Who, vi a2.Deposit]), (166, eS 7 eItem a1), (165, eS 7 eItem a1), (164, .agg [eS 1 vt a0.Places, eS 1 vt a0.Technicians, eS 4 eRoad a0.Roads, eS 3 eGrand a0.Grands, vi a0.Change, vi a0.Lasts]), (163, .agg [eS 1 vt a0.Places, eS 1 vt a0.Technicians, eS 4 eRoad a0.Roads, eS 3 eGrand a0.Grands, vi a0.Change, vi a0.Lasts]), (1, eS 7 eItem a1), (3, .ptr 0 0 0), (5, .ptr 1 0 0)] [some (.row 6 [.agg [eS 1 vt a0.Places, eS 1 vt a0.Technicians, eS 4 eRoad a0.Roads, eS 3 eGrand a0.Grands, vi a0.Change, vi a0.Lasts]]), some (.row 7 [.agg [vi a2.Kind, vi y18.2, vi ((y18.2 + a2.To) - a2.From), vt a2.Grand, vt a2.Place, vt a2.Who, vi a2.Deposit]]), none, none, none, none, none, none, none, none, none, none, none] (by kernel_rfl) ?_
    refine RegD.done rfl (by kernel_rfl) (S' := ⟨[(17, vi y21.1)], []⟩) (sc [] (by decide) (by kernel_rfl) ObRen.nil rfl rfl) ?_
    refine TriE.seq ?_
    refine TriE.run [(6, vb (y21.1 == (0 : Int)))] [] (by kernel_rfl) ?_
    refine TriE.ret ?_
    have h := Option.some.inj h
    subst h
    exact DoneS.ret (S' := ⟨[(6, vb (y21.1 == (0 : Int)))], []⟩) Sees.refl rfl rfl
  intro k2 h
  refine TriE.seq ?_
  refine TriE.run [(1, eS 7 eItem a1), (3, .ptr 0 0 0), (5, .ptr 1 0 0), (9, vi 0)] [some (.row 6 [.agg [eS 1 vt a0.Places, eS 1 vt a0.Technicians, eS 4 eRoad a0.Roads, eS 3 eGrand a0.Grands, vi a0.Change, vi a0.Lasts]]), some (.row 7 [.agg [vi a2.Kind, vi a2.From, vi a2.To, vt a2.Grand, vt a2.Place, vt a2.Who, vi a2.Deposit]]), none] (by kernel_rfl) ?_
  refine TriE.block ?_
  refine TriE.sees (S' := ⟨[(1, eS 7 eItem a1), (3, .ptr 0 0 0), (5, .ptr 1 0 0), (9, vi ((0 : Nat) : Int))], [some (.row 6 [.agg [eS 1 vt a0.Places, eS 1 vt a0.Technicians, eS 4 eRoad a0.Roads, eS 3 eGrand a0.Grands, vi a0.Change, vi a0.Lasts]]), some (.row 7 [.agg [vi a2.Kind, vi a2.From, vi a2.To, vt a2.Grand, vt a2.Place, vt a2.Who, vi a2.Deposit]])]⟩) (sc [0, 1] (by decide) (by kernel_rfl) (.cons rfl (.cons rfl .nil)) rfl rfl) ?_
  refine TriE.loopN h (fun (v11 : Nat) => St.mk [(1, eS 7 eItem a1), (3, .ptr 0 0 0), (5, .ptr 1 0 0), (9, vi ((v11 : Nat) : Int))] [some (.row 6 [.agg [eS 1 vt a0.Places, eS 1 vt a0.Technicians, eS 4 eRoad a0.Roads, eS 3 eGrand a0.Grands, vi a0.Change, vi a0.Lasts]]), some (.row 7 [.agg [vi a2.Kind, vi a2.From, vi a2.To, vt a2.Grand, vt a2.Place, vt a2.Who, vi a2.Deposit]])]) rfl ?_
  clear h
  rintro back v11 h
  dsimp only [agraffelaw09_DiaryApart_L2] at h
  show TriE _ _ _ _ _ (St.mk [(1, eS 7 eItem a1), (3, .ptr 0 0 0), (5, .ptr 1 0 0), (9, vi ((v11 : Nat) : Int))] [some (.row 6 [.agg [eS 1 vt a0.Places, eS 1 vt a0.Technicians, eS 4 eRoad a0.Roads, eS 3 eGrand a0.Grands, vi a0.Change, vi a0.Lasts]]), some (.row 7 [.agg [vi a2.Kind, vi a2.From, vi a2.To, vt a2.Grand, vt a2.Place, vt a2.Who, vi a2.Deposit]])]) _
  refine TriE.seq ?_
  refine TriE.seq ?_
  refine TriE.regJ ?_
  refine RegJ.run 2 [(1, eS 7 eItem a1), (3, .ptr 0 0 0), (5, .ptr 1 0 0), (9, vi ((v11 : Nat) : Int)), (43, vi ((v11 : Nat) : Int)), (44, eS 7 eItem a1)] [some (.row 6 [.agg [eS 1 vt a0.Places, eS 1 vt a0.Technicians, eS 4 eRoad a0.Roads, eS 3 eGrand a0.Grands, vi a0.Change, vi a0.Lasts]]), some (.row 7 [.agg [vi a2.Kind, vi a2.From, vi a2.To, vt a2.Grand, vt a2.Place, vt a2.Who, vi a2.Deposit]])] (by kernel_rfl) ?_
  refine jv (vi ((a1.length : Nat) : Int)) (cz (I0 45 (.len 0 (.t 44))) (by kernel_rfl)) (ok_len_m rfl) rfl ?_
  refine jv (vb (decide (v11 < a1.length))) (cz (I0 46 (.bin .lss false (.t 43) (.t 45))) (by kernel_rfl)) (n_lss (i := v11) (j := a1.length) rfl rfl) rfl ?_
  refine jd [(1, eS 7 eItem a1), (3, .ptr 0 0 0), (5, .ptr 1 0 0), (9, vi ((v11 : Nat) : Int)), (46, vb (decide (v11 < a1.length)))] (by kernel_rfl) rfl ?_
  refine TriE.cond (b := decide (v11 < a1.length)) rfl (fun c4 => ?_) (fun c4 => ?_)
  · have h := cond_t h c4
    refine TriE.skip ?_
    refine TriE.seqK h (fun (_ : Unit) => St.mk [(1, eS 7 eItem a1), (3, .ptr 0 0 0), (5, .ptr 1 0 0), (9, vi ((v11 : Nat) : Int))] [some (.row 6 [.agg [eS 1 vt a0.Places, eS 1 vt a0.Technicians, eS 4 eRoad a0.Roads, eS 3 eGrand a0.Grands, vi a0.Change, vi a0.Lasts]]), some (.row 7 [.agg [vi a2.Kind, vi a2.From, vi a2.To, vt a2.Grand, vt a2.Place, vt a2.Who, vi a2.Deposit]])]) ?_ ?_
    · rintro ⟨⟩ h
      show TriE _ _ _ _ _ (St.mk [(1, eS 7 eItem a1), (3, .ptr 0 0 0), (5, .ptr 1 0 0), (9, vi ((v11 : Nat) : Int))] [some (.row 6 [.agg [eS 1 vt a0.Places, eS 1 vt a0.Technicians, eS 4 eRoad a0.Roads, eS 3 eGrand a0.Grands, vi a0.Change, vi a0.Lasts]]), some (.row 7 [.agg [vi a2.Kind, vi a2.From, vi a2.To, vt a2.Grand, vt a2.Place, vt a2.Who, vi a2.Deposit]])]) _
      refine TriE.regJ ?_
      refine RegJ.run 1 [(1, eS 7 eItem a1), (3, .ptr 0 0 0), (5, .ptr 1 0 0), (47, vi ((v11 : Nat) : Int))] [some (.row 6 [.agg [eS 1 vt a0.Places, eS 1 vt a0.Technicians, eS 4 eRoad a0.Roads, eS 3 eGrand a0.Grands, vi a0.Change, vi a0.Lasts]]), some (.row 7 [.agg [vi a2.Kind, vi a2.From, vi a2.To, vt a2.Grand, vt a2.Place, vt a2.Who, vi a2.Deposit]])] (by kernel_rfl) ?_
      refine cK h fun c15 h => ?_
      refine jv (vi ((v11 + 1 : Nat) : Int)) (cz (I0 48 (.bin .add false (.t 47) (.c (.p (.int .i64 1))))) (by kernel_rfl)) (r_addn (i := v11) (j := 1) rfl rfl c15) rfl ?_
      refine jrd 1 [(1, eS 7 eItem a1), (3, .ptr 0 0 0), (5, .ptr 1 0 0), (9, vi ((v11 + 1 : Nat) : Int))] [some (.row 6 [.agg [eS 1 vt a0.Places, eS 1 vt a0.Technicians, eS 4 eRoad a0.Roads, eS 3 eGrand a0.Grands, vi a0.Change, vi a0.Lasts]]), some (.row 7 [.agg [vi a2.Kind, vi a2.From, vi a2.To, vt a2.Grand, vt a2.Place, vt a2.Who, vi a2.Deposit]])] (by kernel_rfl) rfl ?_
      exact Vs.intro (sl (by kernel_rfl)) ⟨(v11 + 1), rfl, h⟩
    intro k1 h
    refine TriE.block ?_
    refine TriE.seq ?_
    refine TriE.seq ?_
    refine TriE.sees (Sees.less (fr' := [(1, eS 7 eItem a1), (3, .ptr 0 0 0), (5, .ptr 1 0 0), (9, vi ((v11 : Nat) : Int))]) (.cons rfl (.cons rfl (.cons rfl (.cons rfl .nil))))) ?_
    refine TriE.draw (by kernel_rfl) ?_
    refine RegD.run 1 [(50, .agg [eS 1 vt a0.Places, eS 1 vt a0.Technicians, eS 4 eRoad a0.Roads, eS 3 eGrand a0.Grands, vi a0.Change, vi a0.Lasts]), (1, eS 7 eItem a1), (3, .ptr 0 0 0), (5, .ptr 1 0 0), (9, vi ((v11 : Nat) : Int))] [some (.row 6 [.agg [eS 1 vt a0.Places, eS 1 vt a0.Technicians, eS 4 eRoad a0.Roads, eS 3 eGrand a0.Grands, vi a0.Change, vi a0.Lasts]]), some (.row 7 [.agg [vi a2.Kind, vi a2.From, vi a2.To, vt a2.Grand, vt a2.Place, vt a2.Who, vi a2.Deposit]]), none] (by kernel_rfl) ?_
    refine bK h fun y12 hy12 h => ?_
    refine RegD.op (OpD.call (y' := .agg [eS 1 vt a0.Places, eS 1 vt a0.Technicians, eS 4 eRoad a0.Roads, eS 3 eGrand a0.Grands, vi a0.Change, vi a0.Lasts]) (obx := []) (oby := []) (ob2 := [some (.row 6 [.agg [eS 1 vt a0.Places, eS 1 vt a0.Technicians, eS 4 eRoad a0.Roads, eS 3 eGrand a0.Grands, vi a0.Change, vi a0.Lasts]]), some (.row 7 [.agg [vi a2.Kind, vi a2.From, vi a2.To, vt a2.Grand, vt a2.Place, vt a2.Who, vi a2.Deposit]]), none, none]) (tch := []) 0 _ _ (cz (I0 51 (.call 18 [(.t 50)])) (by kernel_rfl)) (agraffelaw09_town_ok n a0 y12 hy12) [] (by kernel_rfl) (.cons rfl (.cons rfl .nil)) (by kernel_rfl) (by kernel_rfl) ObsRen.nil (by kernel_rfl) ObsRen.nil (by kernel_rfl) rfl (.inr ⟨rfl, rfl⟩)) ?_
    refine RegD.run 2 [(53, vi ((v11 : Nat) : Int)), (52, eS 7 eItem a1), (51, .agg [eS 1 vt a0.Places, eS 1 vt a0.Technicians, eS 4 eRoad a0.Roads, eS 3 eGrand a0.Grands, vi a0.Change, vi a0.Lasts]), (50, .agg [eS 1 vt a0.Places, eS 1 vt a0.Technicians, eS 4 eRoad a0.Roads, eS 3 eGrand a0.Grands, vi a0.Change, vi a0.Lasts]), (1, eS 7 eItem a1), (3, .ptr 0 0 0), (5, .ptr 1 0 0), (9, vi ((v11 : Nat) : Int))] [some (.row 6 [.agg [eS 1 vt a0.Places, eS 1 vt a0.Technicians, eS 4 eRoad a0.Roads, eS 3 eGrand a0.Grands, vi a0.Change, vi a0.Lasts]]), some (.row 7 [.agg [vi a2.Kind, vi a2.From, vi a2.To, vt a2.Grand, vt a2.Place, vt a2.Who, vi a2.Deposit]]), none, none, none, none] (by kernel_rfl) ?_
    refine cK h fun c5 h => ?_
    refine dv (eS 7 eItem (List.take v11 a1)) (cz (I0 54 (.slc 7 (.t 52) none (some (.t 53)) none)) (by kernel_rfl)) (ok_slc_hi (j := v11) rfl rfl rfl c5) rfl ?_
    refine bK h fun y13 hy13 h => ?_
    refine RegD.op (OpD.call (y' := eS 7 eItem (List.take v11 a1)) (obx := []) (oby := []) (ob2 := [some (.row 6 [.agg [eS 1 vt a0.Places, eS 1 vt a0.Technicians, eS 4 eRoad a0.Roads, eS 3 eGrand a0.Grands, vi a0.Change, vi a0.Lasts]]), some (.row 7 [.agg [vi a2.Kind, vi a2.From, vi a2.To, vt a2.Grand, vt a2.Place, vt a2.Who, vi a2.Deposit]]), none, none, none, none, none, none]) (tch := []) 0 _ _ (cz (I0 55 (.call 23 [(.t 54)])) (by kernel_rfl)) (agraffelaw09_items_2_ok n (List.take v11 a1) y13 hy13) [] (by kernel_rfl) (.cons rfl (.cons rfl .nil)) (by kernel_rfl) (by kernel_rfl) ObsRen.nil (by kernel_rfl) ObsRen.nil (by kernel_rfl) rfl (.inr ⟨rfl, rfl⟩)) ?_
    refine bK h fun y14 hy14 h => ?_
    refine RegD.op (OpD.call (y' := .tup [vi y14.2, vi y14.1]) (obx := []) (oby := []) (ob2 := [some (.row 6 [.agg [eS 1 vt a0.Places, eS 1 vt a0.Technicians, eS 4 eRoad a0.Roads, eS 3 eGrand a0.Grands, vi a0.Change, vi a0.Lasts]]), some (.row 7 [.agg [vi a2.Kind, vi a2.From, vi a2.To, vt a2.Grand, vt a2.Place, vt a2.Who, vi a2.Deposit]]), none, none, none, none, none, none, none]) (tch := []) 0 _ _ (cz (I0 56 (.call 22 [(.t 51), (.t 55)])) (by kernel_rfl)) (diary_Accept_ok n a0 (List.take v11 a1) y14 hy14) [] (by kernel_rfl) (.cons rfl (.cons rfl (.cons rfl .nil))) (by kernel_rfl) (by kernel_rfl) ObsRen.nil (by kernel_rfl) ObsRen.nil (by kernel_rfl) rfl (.inr ⟨rfl, rfl⟩)) ?_
    refine RegD.run 5 [(11, vi y14.1), (10, vi y14.2), (58, vi y14.1), (57, vi y14.2), (49, .tup [vi y14.2, vi y14.1]), (56, .tup [vi y14.2, vi y14.1]), (55, eS 7 eItem (List.take v11 a1)), (54, eS 7 eItem (List.take v11 a1)), (53, vi ((v11 : Nat) : Int)), (52, eS 7 eItem a1), (51, .agg [eS 1 vt a0.Places, eS 1 vt a0.Technicians, eS 4 eRoad a0.Roads, eS 3 eGrand a0.Grands, vi a0.Change, vi a0.Lasts]), (50, .agg [eS 1 vt a0.Places, eS 1 vt a0.Technicians, eS 4 eRoad a0.Roads, eS 3 eGrand a0.Grands, vi a0.Change, vi a0.Lasts]), (1, eS 7 eItem a1), (3, .ptr 0 0 0), (5, .ptr 1 0 0), (9, vi ((v11 : Nat) : Int))] [some (.row 6 [.agg [eS 1 vt a0.Places, eS 1 vt a0.Technicians, eS 4 eRoad a0.Roads, eS 3 eGrand a0.Grands, vi a0.Change, vi a0.Lasts]]), some (.row 7 [.agg [vi a2.Kind, vi a2.From, vi a2.To, vt a2.Grand, vt a2.Place, vt a2.Who, vi a2.Deposit]]), none, none, none, none, none, none, none, none, none, none, none, none] (by kernel_rfl) ?_
    refine RegD.done rfl (by kernel_rfl) (S' := ⟨[(1, eS 7 eItem a1), (3, .ptr 0 0 0), (5, .ptr 1 0 0), (9, vi ((v11 : Nat) : Int)), (11, vi y14.1)], [some (.row 6 [.agg [eS 1 vt a0.Places, eS 1 vt a0.Technicians, eS 4 eRoad a0.Roads, eS 3 eGrand a0.Grands, vi a0.Change, vi a0.Lasts]]), some (.row 7 [.agg [vi a2.Kind, vi a2.From, vi a2.To, vt a2.Grand, vt a2.Place, vt a2.Who, vi a2.Deposit]])]⟩) (sc [0, 1] (by decide) (by kernel_rfl) (.cons rfl (.cons rfl .nil)) rfl rfl) ?_
    refine TriE.seq ?_
    refine TriE.run [(1, eS 7 eItem a1), (3, .ptr 0 0 0), (5, .ptr 1 0 0), (9, vi ((v11 : Nat) : Int)), (60, vb (y14.1 != (0 : Int)))] [some (.row 6 [.agg [eS 1 vt a0.Places, eS 1 vt a0.Technicians, eS 4 eRoad a0.Roads, eS 3 eGrand a0.Grands, vi a0.Change, vi a0.Lasts]]), some (.row 7 [.agg [vi a2.Kind, vi a2.From, vi a2.To, vt a2.Grand, vt a2.Place, vt a2.Who, vi a2.Deposit]])] (by kernel_rfl) ?_
    refine TriE.cond (b := (y14.1 != (0 : Int))) rfl (fun c6 => ?_) (fun c6 => ?_)
    · have h := cond_t h c6
      refine TriE.seq ?_
      refine TriE.run [(6, vb false)] [some (.row 6 [.agg [eS 1 vt a0.Places, eS 1 vt a0.Technicians, eS 4 eRoad a0.Roads, eS 3 eGrand a0.Grands, vi a0.Change, vi a0.Lasts]]), some (.row 7 [.agg [vi a2.Kind, vi a2.From, vi a2.To, vt a2.Grand, vt a2.Place, vt a2.Who, vi a2.Deposit]])] (by kernel_rfl) ?_
      refine TriE.ret ?_
      have h := Option.some.inj h
      subst h
      exact DoneS.ret (S' := ⟨[(6, vb false)], []⟩) (sc [] (by decide) (by kernel_rfl) ObRen.nil rfl rfl) rfl rfl
    have h := cond_f h c6
    refine TriE.skip ?_
    refine TriE.seq ?_
    refine TriE.run [(1, eS 7 eItem a1), (3, .ptr 0 0 0), (5, .ptr 1 0 0), (9, vi ((v11 : Nat) : Int)), (12, vi 0)] [some (.row 6 [.agg [eS 1 vt a0.Places, eS 1 vt a0.Technicians, eS 4 eRoad a0.Roads, eS 3 eGrand a0.Grands, vi a0.Change, vi a0.Lasts]]), some (.row 7 [.agg [vi a2.Kind, vi a2.From, vi a2.To, vt a2.Grand, vt a2.Place, vt a2.Who, vi a2.Deposit]])] (by kernel_rfl) ?_
    refine TriE.block ?_
    refine TriE.sees (S' := ⟨[(1, eS 7 eItem a1), (3, .ptr 0 0 0), (5, .ptr 1 0 0), (9, vi ((v11 : Nat) : Int)), (12, vi ((0 : Nat) : Int))], [some (.row 6 [.agg [eS 1 vt a0.Places, eS 1 vt a0.Technicians, eS 4 eRoad a0.Roads, eS 3 eGrand a0.Grands, vi a0.Change, vi a0.Lasts]]), some (.row 7 [.agg [vi a2.Kind, vi a2.From, vi a2.To, vt a2.Grand, vt a2.Place, vt a2.Who, vi a2.Deposit]])]⟩) (sl (by kernel_rfl)) ?_
    refine TriE.loopN h (fun (v15 : Nat) => St.mk [(1, eS 7 eItem a1), (3, .ptr 0 0 0), (5, .ptr 1 0 0), (9, vi ((v11 : Nat) : Int)), (12, vi ((v15 : Nat) : Int))] [some (.row 6 [.agg [eS 1 vt a0.Places, eS 1 vt a0.Technicians, eS 4 eRoad a0.Roads, eS 3 eGrand a0.Grands, vi a0.Change, vi a0.Lasts]]), some (.row 7 [.agg [vi a2.Kind, vi a2.From, vi a2.To, vt a2.Grand, vt a2.Place, vt a2.Who, vi a2.Deposit]])]) rfl ?_
    clear h
    rintro back v15 h
    dsimp only [agraffelaw09_DiaryApart_L1] at h
    show TriE _ _ _ _ _ (St.mk [(1, eS 7 eItem a1), (3, .ptr 0 0 0), (5, .ptr 1 0 0), (9, vi ((v11 : Nat) : Int)), (12, vi ((v15 : Nat) : Int))] [some (.row 6 [.agg [eS 1 vt a0.Places, eS 1 vt a0.Technicians, eS 4 eRoad a0.Roads, eS 3 eGrand a0.Grands, vi a0.Change, vi a0.Lasts]]), some (.row 7 [.agg [vi a2.Kind, vi a2.From, vi a2.To, vt a2.Grand, vt a2.Place, vt a2.Who, vi a2.Deposit]])]) _
    refine TriE.seq ?_
    refine TriE.seq ?_
    refine TriE.regJ ?_
    refine RegJ.run 2 [(1, eS 7 eItem a1), (3, .ptr 0 0 0), (5, .ptr 1 0 0), (9, vi ((v11 : Nat) : Int)), (12, vi ((v15 : Nat) : Int)), (61, vi ((v15 : Nat) : Int)), (62, vi ((v11 : Nat) : Int))] [some (.row 6 [.agg [eS 1 vt a0.Places, eS 1 vt a0.Technicians, eS 4 eRoad a0.Roads, eS 3 eGrand a0.Grands, vi a0.Change, vi a0.Lasts]]), some (.row 7 [.agg [vi a2.Kind, vi a2.From, vi a2.To, vt a2.Grand, vt a2.Place, vt a2.Who, vi a2.Deposit]])] (by kernel_rfl) ?_
    refine jv (vb (decide (v15 < v11))) (cz (I0 63 (.bin .lss false (.t 61) (.t 62))) (by kernel_rfl)) (n_lss (i := v15) (j := v11) rfl rfl) rfl ?_
    refine jd [(1, eS 7 eItem a1), (3, .ptr 0 0 0), (5, .ptr 1 0 0), (9, vi ((v11 : Nat) : Int)), (12, vi ((v15 : Nat) : Int)), (63, vb (decide (v15 < v11)))] (by kernel_rfl) rfl ?_
    refine TriE.cond (b := decide (v15 < v11)) rfl (fun c7 => ?_) (fun c7 => ?_)
    · have h := cond_t h c7
      refine TriE.skip ?_
      refine TriE.seq ?_
      refine TriE.block ?_
      refine TriE.seq ?_
      refine TriE.sees (Sees.less (fr' := [(1, eS 7 eItem a1), (3, .ptr 0 0 0), (5, .ptr 1 0 0), (9, vi ((v11 : Nat) : Int)), (12, vi ((v15 : Nat) : Int))]) (.cons rfl (.cons rfl (.cons rfl (.cons rfl (.cons rfl .nil)))))) ?_
      refine TriE.draw (by kernel_rfl) ?_
      refine RegD.run 2 [(67, vi ((v11 : Nat) : Int)), (66, eS 7 eItem a1), (1, eS 7 eItem a1), (3, .ptr 0 0 0), (5, .ptr 1 0 0), (9, vi ((v11 : Nat) : Int)), (12, vi ((v15 : Nat) : Int))] [some (.row 6 [.agg [eS 1 vt a0.Places, eS 1 vt a0.Technicians, eS 4 eRoad a0.Roads, eS 3 eGrand a0.Grands, vi a0.Change, vi a0.Lasts]]), some (.row 7 [.agg [vi a2.Kind, vi a2.From, vi a2.To, vt a2.Grand, vt a2.Place, vt a2.Who, vi a2.Deposit]]), none, none] (by kernel_rfl) ?_
      refine dv (.fptr 7 (List.map eItem a1) v11 0) (cz (I0 68 (.iaddr 7 (.t 66) (.t 67))) (by kernel_rfl)) (ok_iaddr_m (j := v11) rfl rfl rfl c4) rfl ?_
      refine RegD.run 1 [(69, .fptr 7 (List.map eItem a1) v11 0), (68, .fptr 7 (List.map eItem a1) v11 0), (67, vi ((v11 : Nat) : Int)), (66, eS 7 eItem a1), (1, eS 7 eItem a1), (3, .ptr 0 0 0), (5, .ptr 1 0 0), (9, vi ((v11 : Nat) : Int)), (12, vi ((v15 : Nat) : Int))] [some (.row 6 [.agg [eS 1 vt a0.Places, eS 1 vt a0.Technicians, eS 4 eRoad a0.Roads, eS 3 eGrand a0.Grands, vi a0.Change, vi a0.Lasts]]), some (.row 7 [.agg [vi a2.Kind, vi a2.From, vi a2.To, vt a2.Grand, vt a2.Place, vt a2.Who, vi a2.Deposit]]), none, none, none, none] (by kernel_rfl) ?_
      refine dv (vi ((ix a1 v11).Kind)) (cz (I0 70 (.load false 1 (.t 69))) (by kernel_rfl)) (ok_load_fm (v := vi ((ix a1 v11).Kind)) rfl c4 rfl) rfl ?_
      refine RegD.run 2 [(72, vb (((ix a1 v11).Kind) == (0 : Int))), (71, vb (((ix a1 v11).Kind) == (0 : Int))), (70, vi ((ix a1 v11).Kind)), (69, .fptr 7 (List.map eItem a1) v11 0), (68, .fptr 7 (List.map eItem a1) v11 0), (67, vi ((v11 : Nat) : Int)), (66, eS 7 eItem a1), (1, eS 7 eItem a1), (3, .ptr 0 0 0), (5, .ptr 1 0 0), (9, vi ((v11 : Nat) : Int)), (12, vi ((v15 : Nat) : Int))] [some (.row 6 [.agg [eS 1 vt a0.Places, eS 1 vt a0.Technicians, eS 4 eRoad a0.Roads, eS 3 eGrand a0.Grands, vi a0.Change, vi a0.Lasts]]), some (.row 7 [.agg [vi a2.Kind, vi a2.From, vi a2.To, vt a2.Grand, vt a2.Place, vt a2.Who, vi a2.Deposit]]), none, none, none, none, none, none, none] (by kernel_rfl) ?_
      refine RegD.op (OpD.valk (g := (((ix a1 v11).Kind) == (0 : Int))) (v := eS 7 eItem a1) _ _ (cz (IG 73 (.mov (.t 1)) 72 true) (by kernel_rfl)) rfl (by kernel_rfl) (fun hg => (.cons rfl .nil))) ?_
      refine RegD.op (OpD.valk (g := (((ix a1 v11).Kind) == (0 : Int))) (v := vi ((v15 : Nat) : Int)) _ _ (cz (IG 74 (.mov (.t 12)) 72 true) (by kernel_rfl)) rfl (by kernel_rfl) (fun hg => (.cons rfl .nil))) ?_
      refine cK h fun c8 h => ?_
      refine RegD.op (OpD.valg (g := (((ix a1 v11).Kind) == (0 : Int))) (v := .fptr 7 (List.map eItem a1) v15 0) _ _ (cz (IG 75 (.iaddr 7 (.t 73) (.t 74)) 72 true) (by kernel_rfl)) rfl (fun hg => (ok_iaddr_m (j := v15) rfl rfl rfl (gor c8 hg))) (fun hg => (.cons hg (.cons hg .nil)))) ?_
      refine RegD.op (OpD.valk (g := (((ix a1 v11).Kind) == (0 : Int))) (v := .fptr 7 (List.map eItem a1) v15 0) _ _ (cz (IG 76 (.faddr 0 (.t 75)) 72 true) (by kernel_rfl)) rfl (by kernel_rfl) (fun hg => (.cons hg .nil))) ?_
      refine cK h fun c9 h => ?_
      refine RegD.op (OpD.valg (g := (((ix a1 v11).Kind) == (0 : Int))) (v := vi ((ix a1 v15).Kind)) _ _ (cz (IG 77 (.load false 1 (.t 76)) 72 true) (by kernel_rfl)) rfl (fun hg => (ok_load_fm (v := vi ((ix a1 v15).Kind)) rfl (gor c9 hg) rfl)) (fun hg => (.cons hg .nil))) ?_
      refine RegD.op (OpD.valk (g := (((ix a1 v11).Kind) == (0 : Int))) (v := vb (((ix a1 v15).Kind) == (0 : Int))) _ _ (cz (IG 78 (.bin .eql false (.t 77) (.c (.p (.int .i64 0)))) 72 true) (by kernel_rfl)) rfl (by kernel_rfl) (fun hg => (.cons hg (.cons rfl .nil)))) ?_
      refine RegD.op (OpD.and (cz (I0 79 (.pick (.t 72) (.t 78) (.c (.p (.bool false))))) (by kernel_rfl)) rfl rfl (by first | exact hokA1 | exact hokA0 | simp)) ?_
      refine RegD.run 1 [(80, vb ((((ix a1 v11).Kind) == (0 : Int)) && (((ix a1 v15).Kind) == (0 : Int)))), (79, vb ((((ix a1 v11).Kind) == (0 : Int)) && (((ix a1 v15).Kind) == (0 : Int)))), (78, .cond (((ix a1 v11).Kind) == (0 : Int)) (vb (((ix a1 v15).Kind) == (0 : Int)))), (77, .cond (((ix a1 v11).Kind) == (0 : Int)) (vi ((ix a1 v15).Kind))), (76, .cond (((ix a1 v11).Kind) == (0 : Int)) (.fptr 7 (List.map eItem a1) v15 0)), (75, .cond (((ix a1 v11).Kind) == (0 : Int)) (.fptr 7 (List.map eItem a1) v15 0)), (74, .cond (((ix a1 v11).Kind) == (0 : Int)) (vi ((v15 : Nat) : Int))), (73, .cond (((ix a1 v11).Kind) == (0 : Int)) (eS 7 eItem a1)), (72, vb (((ix a1 v11).Kind) == (0 : Int))), (71, vb (((ix a1 v11).Kind) == (0 : Int))), (70, vi ((ix a1 v11).Kind)), (69, .fptr 7 (List.map eItem a1) v11 0), (68, .fptr 7 (List.map eItem a1) v11 0), (67, vi ((v11 : Nat) : Int)), (66, eS 7 eItem a1), (1, eS 7 eItem a1), (3, .ptr 0 0 0), (5, .ptr 1 0 0), (9, vi ((v11 : Nat) : Int)), (12, vi ((v15 : Nat) : Int))] [some (.row 6 [.agg [eS 1 vt a0.Places, eS 1 vt a0.Technicians, eS 4 eRoad a0.Roads, eS 3 eGrand a0.Grands, vi a0.Change, vi a0.Lasts]]), some (.row 7 [.agg [vi a2.Kind, vi a2.From, vi a2.To, vt a2.Grand, vt a2.Place, vt a2.Who, vi a2.Deposit]]), none, none, none, none, none, none, none, none, none, none, none, none, none, none, none] (by kernel_rfl) ?_
      refine RegD.op (OpD.valk (g := (((ix a1 v11).Kind) == (0 : Int)) && (((ix a1 v15).Kind) == (0 : Int))) (v := eS 7 eItem a1) _ _ (cz (IG 81 (.mov (.t 1)) 80 true) (by kernel_rfl)) rfl (by kernel_rfl) (fun hg => (.cons rfl .nil))) ?_
      refine RegD.op (OpD.valk (g := (((ix a1 v11).Kind) == (0 : Int)) && (((ix a1 v15).Kind) == (0 : Int))) (v := vi ((v11 : Nat) : Int)) _ _ (cz (IG 82 (.mov (.t 9)) 80 true) (by kernel_rfl)) rfl (by kernel_rfl) (fun hg => (.cons rfl .nil))) ?_
      refine RegD.op (OpD.valg (g := (((ix a1 v11).Kind) == (0 : Int)) && (((ix a1 v15).Kind) == (0 : Int))) (v := .fptr 7 (List.map eItem a1) v11 0) _ _ (cz (IG 83 (.iaddr 7 (.t 81) (.t 82)) 80 true) (by kernel_rfl)) rfl (fun hg => (ok_iaddr_m (j := v11) rfl rfl rfl c4)) (fun hg => (.cons hg (.cons hg .nil)))) ?_
      refine RegD.op (OpD.valk (g := (((ix a1 v11).Kind) == (0 : Int)) && (((ix a1 v15).Kind) == (0 : Int))) (v := .fptr 7 (List.map eItem a1) v11 5) _ _ (cz (IG 84 (.faddr 5 (.t 83)) 80 true) (by kernel_rfl)) rfl (by kernel_rfl) (fun hg => (.cons hg .nil))) ?_
      refine RegD.op (OpD.valg (g := (((ix a1 v11).Kind) == (0 : Int)) && (((ix a1 v15).Kind) == (0 : Int))) (v := vt ((ix a1 v11).Who)) _ _ (cz (IG 85 (.load false 1 (.t 84)) 80 true) (by kernel_rfl)) rfl (fun hg => (ok_load_fm (v := vt ((ix a1 v11).Who)) rfl c4 rfl)) (fun hg => (.cons hg .nil))) ?_
      refine RegD.op (OpD.valk (g := (((ix a1 v11).Kind) == (0 : Int)) && (((ix a1 v15).Kind) == (0 : Int))) (v := eS 7 eItem a1) _ _ (cz (IG 86 (.mov (.t 1)) 80 true) (by kernel_rfl)) rfl (by kernel_rfl) (fun hg => (.cons rfl .nil))) ?_
      refine RegD.op (OpD.valk (g := (((ix a1 v11).Kind) == (0 : Int)) && (((ix a1 v15).Kind) == (0 : Int))) (v := vi ((v15 : Nat) : Int)) _ _ (cz (IG 87 (.mov (.t 12)) 80 true) (by kernel_rfl)) rfl (by kernel_rfl) (fun hg => (.cons rfl .nil))) ?_
      refine cK h fun c10 h => ?_
      refine RegD.op (OpD.valg (g := (((ix a1 v11).Kind) == (0 : Int)) && (((ix a1 v15).Kind) == (0 : Int))) (v := .fptr 7 (List.map eItem a1) v15 0) _ _ (cz (IG 88 (.iaddr 7 (.t 86) (.t 87)) 80 true) (by kernel_rfl)) rfl (fun hg => (ok_iaddr_m (j := v15) rfl rfl rfl (gor c10 hg))) (fun hg => (.cons hg (.cons hg .nil)))) ?_
      refine RegD.op (OpD.valk (g := (((ix a1 v11).Kind) == (0 : Int)) && (((ix a1 v15).Kind) == (0 : Int))) (v := .fptr 7 (List.map eItem a1) v15 5) _ _ (cz (IG 89 (.faddr 5 (.t 88)) 80 true) (by kernel_rfl)) rfl (by kernel_rfl) (fun hg => (.cons hg .nil))) ?_
      refine cK h fun c11 h => ?_
      refine RegD.op (OpD.valg (g := (((ix a1 v11).Kind) == (0 : Int)) && (((ix a1 v15).Kind) == (0 : Int))) (v := vt ((ix a1 v15).Who)) _ _ (cz (IG 90 (.load false 1 (.t 89)) 80 true) (by kernel_rfl)) rfl (fun hg => (ok_load_fm (v := vt ((ix a1 v15).Who)) rfl (gor c11 hg) rfl)) (fun hg => (.cons hg .nil))) ?_
      refine RegD.op (OpD.valk (g := (((ix a1 v11).Kind) == (0 : Int)) && (((ix a1 v15).Kind) == (0 : Int))) (v := vb (((ix a1 v11).Who) == ((ix a1 v15).Who))) _ _ (cz (IG 91 (.bin .eql false (.t 85) (.t 90)) 80 true) (by kernel_rfl)) rfl (by kernel_rfl) (fun hg => (.cons hg (.cons hg .nil)))) ?_
      refine RegD.op (OpD.and (cz (I0 92 (.pick (.t 80) (.t 91) (.c (.p (.bool false))))) (by kernel_rfl)) rfl rfl (by first | exact hokA1 | exact hokA0 | simp)) ?_
      refine RegD.run 1 [(13, vb (((((ix a1 v11).Kind) == (0 : Int)) && (((ix a1 v15).Kind) == (0 : Int))) && (((ix a1 v11).Who) == ((ix a1 v15).Who)))), (92, vb (((((ix a1 v11).Kind) == (0 : Int)) && (((ix a1 v15).Kind) == (0 : Int))) && (((ix a1 v11).Who) == ((ix a1 v15).Who)))), (91, .cond ((((ix a1 v11).Kind) == (0 : Int)) && (((ix a1 v15).Kind) == (0 : Int))) (vb (((ix a1 v11).Who) == ((ix a1 v15).Who)))), (90, .cond ((((ix a1 v11).Kind) == (0 : Int)) && (((ix a1 v15).Kind) == (0 : Int))) (vt ((ix a1 v15).Who))), (89, .cond ((((ix a1 v11).Kind) == (0 : Int)) && (((ix a1 v15).Kind) == (0 : Int))) (.fptr 7 (List.map eItem a1) v15 5)), (88, .cond ((((ix a1 v11).Kind) == (0 : Int)) && (((ix a1 v15).Kind) == (0 : Int))) (.fptr 7 (List.map eItem a1) v15 0)), (87, .cond ((((ix a1 v11).Kind) == (0 : Int)) && (((ix a1 v15).Kind) == (0 : Int))) (vi ((v15 : Nat) : Int))), (86, .cond ((((ix a1 v11).Kind) == (0 : Int)) && (((ix a1 v15).Kind) == (0 : Int))) (eS 7 eItem a1)), (85, .cond ((((ix a1 v11).Kind) == (0 : Int)) && (((ix a1 v15).Kind) == (0 : Int))) (vt ((ix a1 v11).Who))), (84, .cond ((((ix a1 v11).Kind) == (0 : Int)) && (((ix a1 v15).Kind) == (0 : Int))) (.fptr 7 (List.map eItem a1) v11 5)), (83, .cond ((((ix a1 v11).Kind) == (0 : Int)) && (((ix a1 v15).Kind) == (0 : Int))) (.fptr 7 (List.map eItem a1) v11 0)), (82, .cond ((((ix a1 v11).Kind) == (0 : Int)) && (((ix a1 v15).Kind) == (0 : Int))) (vi ((v11 : Nat) : Int))), (81, .cond ((((ix a1 v11).Kind) == (0 : Int)) && (((ix a1 v15).Kind) == (0 : Int))) (eS 7 eItem a1)), (80, vb ((((ix a1 v11).Kind) == (0 : Int)) && (((ix a1 v15).Kind) == (0 : Int)))), (79, vb ((((ix a1 v11).Kind) == (0 : Int)) && (((ix a1 v15).Kind) == (0 : Int)))), (78, .cond (((ix a1 v11).Kind) == (0 : Int)) (vb (((ix a1 v15).Kind) == (0 : Int)))), (77, .cond (((ix a1 v11).Kind) == (0 : Int)) (vi ((ix a1 v15).Kind))), (76, .cond (((ix a1 v11).Kind) == (0 : Int)) (.fptr 7 (List.map eItem a1) v15 0)), (75, .cond (((ix a1 v11).Kind) == (0 : Int)) (.fptr 7 (List.map eItem a1) v15 0)), (74, .cond (((ix a1 v11).Kind) == (0 : Int)) (vi ((v15 : Nat) : Int))), (73, .cond (((ix a1 v11).Kind) == (0 : Int)) (eS 7 eItem a1)), (72, vb (((ix a1 v11).Kind) == (0 : Int))), (71, vb (((ix a1 v11).Kind) == (0 : Int))), (70, vi ((ix a1 v11).Kind)), (69, .fptr 7 (List.map eItem a1) v11 0), (68, .fptr 7 (List.map eItem a1) v11 0), (67, vi ((v11 : Nat) : Int)), (66, eS 7 eItem a1), (1, eS 7 eItem a1), (3, .ptr 0 0 0), (5, .ptr 1 0 0), (9, vi ((v11 : Nat) : Int)), (12, vi ((v15 : Nat) : Int))] [some (.row 6 [.agg [eS 1 vt a0.Places, eS 1 vt a0.Technicians, eS 4 eRoad a0.Roads, eS 3 eGrand a0.Grands, vi a0.Change, vi a0.Lasts]]), some (.row 7 [.agg [vi a2.Kind, vi a2.From, vi a2.To, vt a2.Grand, vt a2.Place, vt a2.Who, vi a2.Deposit]]), none, none, none, none, none, none, none, none, none, none, none, none, none, none, none, none, none, none, none, none, none, none, none, none, none, none, none, none] (by kernel_rfl) ?_
      refine RegD.done rfl (by kernel_rfl) (S' := ⟨[(1, eS 7 eItem a1), (3, .ptr 0 0 0), (5, .ptr 1 0 0), (9, vi ((v11 : Nat) : Int)), (12, vi ((v15 : Nat) : Int)), (13, vb (((((ix a1 v11).Kind) == (0 : Int)) && (((ix a1 v15).Kind) == (0 : Int))) && (((ix a1 v11).Who) == ((ix a1 v15).Who))))], [some (.row 6 [.agg [eS 1 vt a0.Places, eS 1 vt a0.Technicians, eS 4 eRoad a0.Roads, eS 3 eGrand a0.Grands, vi a0.Change, vi a0.Lasts]]), some (.row 7 [.agg [vi a2.Kind, vi a2.From, vi a2.To, vt a2.Grand, vt a2.Place, vt a2.Who, vi a2.Deposit]])]⟩) (sc [0, 1] (by decide) (by kernel_rfl) (.cons rfl (.cons rfl .nil)) rfl rfl) ?_
      refine TriE.seq ?_
      refine TriE.sees (Sees.less (fr' := [(1, eS 7 eItem a1), (3, .ptr 0 0 0), (5, .ptr 1 0 0), (9, vi ((v11 : Nat) : Int)), (12, vi ((v15 : Nat) : Int)), (13, vb (((((ix a1 v11).Kind) == (0 : Int)) && (((ix a1 v15).Kind) == (0 : Int))) && (((ix a1 v11).Who) == ((ix a1 v15).Who))))]) (.cons rfl (.cons rfl (.cons rfl (.cons rfl (.cons rfl (.cons rfl .nil))))))) ?_
      refine TriE.draw (by kernel_rfl) ?_
      refine RegD.run 2 [(94, vi ((v11 : Nat) : Int)), (93, eS 7 eItem a1), (1, eS 7 eItem a1), (3, .ptr 0 0 0), (5, .ptr 1 0 0), (9, vi ((v11 : Nat) : Int)), (12, vi ((v15 : Nat) : Int)), (13, vb (((((ix a1 v11).Kind) == (0 : Int)) && (((ix a1 v15).Kind) == (0 : Int))) && (((ix a1 v11).Who) == ((ix a1 v15).Who))))] [some (.row 6 [.agg [eS 1 vt a0.Places, eS 1 vt a0.Technicians, eS 4 eRoad a0.Roads, eS 3 eGrand a0.Grands, vi a0.Change, vi a0.Lasts]]), some (.row 7 [.agg [vi a2.Kind, vi a2.From, vi a2.To, vt a2.Grand, vt a2.Place, vt a2.Who, vi a2.Deposit]]), none, none] (by kernel_rfl) ?_
      refine dv (.fptr 7 (List.map eItem a1) v11 0) (cz (I0 95 (.iaddr 7 (.t 93) (.t 94))) (by kernel_rfl)) (ok_iaddr_m (j := v11) rfl rfl rfl c4) rfl ?_
      refine RegD.run 1 [(96, .fptr 7 (List.map eItem a1) v11 3), (95, .fptr 7 (List.map eItem a1) v11 0), (94, vi ((v11 : Nat) : Int)), (93, eS 7 eItem a1), (1, eS 7 eItem a1), (3, .ptr 0 0 0), (5, .ptr 1 0 0), (9, vi ((v11 : Nat) : Int)), (12, vi ((v15 : Nat) : Int)), (13, vb (((((ix a1 v11).Kind) == (0 : Int)) && (((ix a1 v15).Kind) == (0 : Int))) && (((ix a1 v11).Who) == ((ix a1 v15).Who))))] [some (.row 6 [.agg [eS 1 vt a0.Places, eS 1 vt a0.Technicians, eS 4 eRoad a0.Roads, eS 3 eGrand a0.Grands, vi a0.Change, vi a0.Lasts]]), some (.row 7 [.agg [vi a2.Kind, vi a2.From, vi a2.To, vt a2.Grand, vt a2.Place, vt a2.Who, vi a2.Deposit]]), none, none, none, none] (by kernel_rfl) ?_
      refine dv (vt ((ix a1 v11).Grand)) (cz (I0 97 (.load false 1 (.t 96))) (by kernel_rfl)) (ok_load_fm (v := vt ((ix a1 v11).Grand)) rfl c4 rfl) rfl ?_
      refine RegD.run 2 [(99, vi ((v15 : Nat) : Int)), (98, eS 7 eItem a1), (97, vt ((ix a1 v11).Grand)), (96, .fptr 7 (List.map eItem a1) v11 3), (95, .fptr 7 (List.map eItem a1) v11 0), (94, vi ((v11 : Nat) : Int)), (93, eS 7 eItem a1), (1, eS 7 eItem a1), (3, .ptr 0 0 0), (5, .ptr 1 0 0), (9, vi ((v11 : Nat) : Int)), (12, vi ((v15 : Nat) : Int)), (13, vb (((((ix a1 v11).Kind) == (0 : Int)) && (((ix a1 v15).Kind) == (0 : Int))) && (((ix a1 v11).Who) == ((ix a1 v15).Who))))] [some (.row 6 [.agg [eS 1 vt a0.Places, eS 1 vt a0.Technicians, eS 4 eRoad a0.Roads, eS 3 eGrand a0.Grands, vi a0.Change, vi a0.Lasts]]), some (.row 7 [.agg [vi a2.Kind, vi a2.From, vi a2.To, vt a2.Grand, vt a2.Place, vt a2.Who, vi a2.Deposit]]), none, none, none, none, none, none, none] (by kernel_rfl) ?_
      refine cK h fun c12 h => ?_
      refine dv (.fptr 7 (List.map eItem a1) v15 0) (cz (I0 100 (.iaddr 7 (.t 98) (.t 99))) (by kernel_rfl)) (ok_iaddr_m (j := v15) rfl rfl rfl c12) rfl ?_
      refine RegD.run 1 [(101, .fptr 7 (List.map eItem a1) v15 3), (100, .fptr 7 (List.map eItem a1) v15 0), (99, vi ((v15 : Nat) : Int)), (98, eS 7 eItem a1), (97, vt ((ix a1 v11).Grand)), (96, .fptr 7 (List.map eItem a1) v11 3), (95, .fptr 7 (List.map eItem a1) v11 0), (94, vi ((v11 : Nat) : Int)), (93, eS 7 eItem a1), (1, eS 7 eItem a1), (3, .ptr 0 0 0), (5, .ptr 1 0 0), (9, vi ((v11 : Nat) : Int)), (12, vi ((v15 : Nat) : Int)), (13, vb (((((ix a1 v11).Kind) == (0 : Int)) && (((ix a1 v15).Kind) == (0 : Int))) && (((ix a1 v11).Who) == ((ix a1 v15).Who))))] [some (.row 6 [.agg [eS 1 vt a0.Places, eS 1 vt a0.Technicians, eS 4 eRoad a0.Roads, eS 3 eGrand a0.Grands, vi a0.Change, vi a0.Lasts]]), some (.row 7 [.agg [vi a2.Kind, vi a2.From, vi a2.To, vt a2.Grand, vt a2.Place, vt a2.Who, vi a2.Deposit]]), none, none, none, none, none, none, none, none, none] (by kernel_rfl) ?_
      refine dv (vt ((ix a1 v15).Grand)) (cz (I0 102 (.load false 1 (.t 101))) (by kernel_rfl)) (ok_load_fm (v := vt ((ix a1 v15).Grand)) rfl c12 rfl) rfl ?_
      refine RegD.run 2 [(104, vb (((ix a1 v11).Grand) == ((ix a1 v15).Grand))), (103, vb (((ix a1 v11).Grand) == ((ix a1 v15).Grand))), (102, vt ((ix a1 v15).Grand)), (101, .fptr 7 (List.map eItem a1) v15 3), (100, .fptr 7 (List.map eItem a1) v15 0), (99, vi ((v15 : Nat) : Int)), (98, eS 7 eItem a1), (97, vt ((ix a1 v11).Grand)), (96, .fptr 7 (List.map eItem a1) v11 3), (95, .fptr 7 (List.map eItem a1) v11 0), (94, vi ((v11 : Nat) : Int)), (93, eS 7 eItem a1), (1, eS 7 eItem a1), (3, .ptr 0 0 0), (5, .ptr 1 0 0), (9, vi ((v11 : Nat) : Int)), (12, vi ((v15 : Nat) : Int)), (13, vb (((((ix a1 v11).Kind) == (0 : Int)) && (((ix a1 v15).Kind) == (0 : Int))) && (((ix a1 v11).Who) == ((ix a1 v15).Who))))] [some (.row 6 [.agg [eS 1 vt a0.Places, eS 1 vt a0.Technicians, eS 4 eRoad a0.Roads, eS 3 eGrand a0.Grands, vi a0.Change, vi a0.Lasts]]), some (.row 7 [.agg [vi a2.Kind, vi a2.From, vi a2.To, vt a2.Grand, vt a2.Place, vt a2.Who, vi a2.Deposit]]), none, none, none, none, none, none, none, none, none, none, none, none] (by kernel_rfl) ?_
      refine RegD.op (OpD.valk (g := !(((ix a1 v11).Grand) == ((ix a1 v15).Grand))) (v := vb (((((ix a1 v11).Kind) == (0 : Int)) && (((ix a1 v15).Kind) == (0 : Int))) && (((ix a1 v11).Who) == ((ix a1 v15).Who)))) _ _ (cz (IG 105 (.mov (.t 13)) 104 false) (by kernel_rfl)) rfl (by kernel_rfl) (fun hg => (.cons rfl .nil))) ?_
      refine RegD.op (OpD.or (cz (I0 106 (.pick (.t 104) (.c (.p (.bool true))) (.t 105))) (by kernel_rfl)) rfl rfl (by first | exact hokO1 | exact hokO0 | simp)) ?_
      refine RegD.run 1 [(107, vb ((((ix a1 v11).Grand) == ((ix a1 v15).Grand)) || (((((ix a1 v11).Kind) == (0 : Int)) && (((ix a1 v15).Kind) == (0 : Int))) && (((ix a1 v11).Who) == ((ix a1 v15).Who))))), (106, vb ((((ix a1 v11).Grand) == ((ix a1 v15).Grand)) || (((((ix a1 v11).Kind) == (0 : Int)) && (((ix a1 v15).Kind) == (0 : Int))) && (((ix a1 v11).Who) == ((ix a1 v15).Who))))), (105, .cond (!(((ix a1 v11).Grand) == ((ix a1 v15).Grand))) (vb (((((ix a1 v11).Kind) == (0 : Int)) && (((ix a1 v15).Kind) == (0 : Int))) && (((ix a1 v11).Who) == ((ix a1 v15).Who))))), (104, vb (((ix a1 v11).Grand) == ((ix a1 v15).Grand))), (103, vb (((ix a1 v11).Grand) == ((ix a1 v15).Grand))), (102, vt ((ix a1 v15).Grand)), (101, .fptr 7 (List.map eItem a1) v15 3), (100, .fptr 7 (List.map eItem a1) v15 0), (99, vi ((v15 : Nat) : Int)), (98, eS 7 eItem a1), (97, vt ((ix a1 v11).Grand)), (96, .fptr 7 (List.map eItem a1) v11 3), (95, .fptr 7 (List.map eItem a1) v11 0), (94, vi ((v11 : Nat) : Int)), (93, eS 7 eItem a1), (1, eS 7 eItem a1), (3, .ptr 0 0 0), (5, .ptr 1 0 0), (9, vi ((v11 : Nat) : Int)), (12, vi ((v15 : Nat) : Int)), (13, vb (((((ix a1 v11).Kind) == (0 : Int)) && (((ix a1 v15).Kind) == (0 : Int))) && (((ix a1 v11).Who) == ((ix a1 v15).Who))))] [some (.row 6 [.agg [eS 1 vt a0.Places, eS 1 vt a0.Technicians, eS 4 eRoad a0.Roads, eS 3 eGrand a0.Grands, vi a0.Change, vi a0.Lasts]]), some (.row 7 [.agg [vi a2.Kind, vi a2.From, vi a2.To, vt a2.Grand, vt a2.Place, vt a2.Who, vi a2.Deposit]]), none, none, none, none, none, none, none, none, none, none, none, none, none, none, none] (by kernel_rfl) ?_
      refine RegD.op (OpD.valk (g := (((ix a1 v11).Grand) == ((ix a1 v15).Grand)) || (((((ix a1 v11).Kind) == (0 : Int)) && (((ix a1 v15).Kind) == (0 : Int))) && (((ix a1 v11).Who) == ((ix a1 v15).Who)))) (v := eS 7 eItem a1) _ _ (cz (IG 108 (.mov (.t 1)) 107 true) (by kernel_rfl)) rfl (by kernel_rfl) (fun hg => (.cons rfl .nil))) ?_
      refine RegD.op (OpD.valk (g := (((ix a1 v11).Grand) == ((ix a1 v15).Grand)) || (((((ix a1 v11).Kind) == (0 : Int)) && (((ix a1 v15).Kind) == (0 : Int))) && (((ix a1 v11).Who) == ((ix a1 v15).Who)))) (v := vi ((v11 : Nat) : Int)) _ _ (cz (IG 109 (.mov (.t 9)) 107 true) (by kernel_rfl)) rfl (by kernel_rfl) (fun hg => (.cons rfl .nil))) ?_
      refine RegD.op (OpD.valg (g := (((ix a1 v11).Grand) == ((ix a1 v15).Grand)) || (((((ix a1 v11).Kind) == (0 : Int)) && (((ix a1 v15).Kind) == (0 : Int))) && (((ix a1 v11).Who) == ((ix a1 v15).Who)))) (v := .fptr 7 (List.map eItem a1) v11 0) _ _ (cz (IG 110 (.iaddr 7 (.t 108) (.t 109)) 107 true) (by kernel_rfl)) rfl (fun hg => (ok_iaddr_m (j := v11) rfl rfl rfl c4)) (fun hg => (.cons hg (.cons hg .nil)))) ?_
      refine RegD.op (OpD.valk (g := (((ix a1 v11).Grand) == ((ix a1 v15).Grand)) || (((((ix a1 v11).Kind) == (0 : Int)) && (((ix a1 v15).Kind) == (0 : Int))) && (((ix a1 v11).Who) == ((ix a1 v15).Who)))) (v := .fptr 7 (List.map eItem a1) v11 1) _ _ (cz (IG 111 (.faddr 1 (.t 110)) 107 true) (by kernel_rfl)) rfl (by kernel_rfl) (fun hg => (.cons hg .nil))) ?_
      refine RegD.op (OpD.valg (g := (((ix a1 v11).Grand) == ((ix a1 v15).Grand)) || (((((ix a1 v11).Kind) == (0 : Int)) && (((ix a1 v15).Kind) == (0 : Int))) && (((ix a1 v11).Who) == ((ix a1 v15).Who)))) (v := vi ((ix a1 v11).From)) _ _ (cz (IG 112 (.load false 1 (.t 111)) 107 true) (by kernel_rfl)) rfl (fun hg => (ok_load_fm (v := vi ((ix a1 v11).From)) rfl c4 rfl)) (fun hg => (.cons hg .nil))) ?_
      refine RegD.op (OpD.valk (g := (((ix a1 v11).Grand) == ((ix a1 v15).Grand)) || (((((ix a1 v11).Kind) == (0 : Int)) && (((ix a1 v15).Kind) == (0 : Int))) && (((ix a1 v11).Who) == ((ix a1 v15).Who)))) (v := eS 7 eItem a1) _ _ (cz (IG 113 (.mov (.t 1)) 107 true) (by kernel_rfl)) rfl (by kernel_rfl) (fun hg => (.cons rfl .nil))) ?_
      refine RegD.op (OpD.valk (g := (((ix a1 v11).Grand) == ((ix a1 v15).Grand)) || (((((ix a1 v11).Kind) == (0 : Int)) && (((ix a1 v15).Kind) == (0 : Int))) && (((ix a1 v11).Who) == ((ix a1 v15).Who)))) (v := vi ((v15 : Nat) : Int)) _ _ (cz (IG 114 (.mov (.t 12)) 107 true) (by kernel_rfl)) rfl (by kernel_rfl) (fun hg => (.cons rfl .nil))) ?_
      refine RegD.op (OpD.valg (g := (((ix a1 v11).Grand) == ((ix a1 v15).Grand)) || (((((ix a1 v11).Kind) == (0 : Int)) && (((ix a1 v15).Kind) == (0 : Int))) && (((ix a1 v11).Who) == ((ix a1 v15).Who)))) (v := .fptr 7 (List.map eItem a1) v15 0) _ _ (cz (IG 115 (.iaddr 7 (.t 113) (.t 114)) 107 true) (by kernel_rfl)) rfl (fun hg => (ok_iaddr_m (j := v15) rfl rfl rfl c12)) (fun hg => (.cons hg (.cons hg .nil)))) ?_
      refine RegD.op (OpD.valk (g := (((ix a1 v11).Grand) == ((ix a1 v15).Grand)) || (((((ix a1 v11).Kind) == (0 : Int)) && (((ix a1 v15).Kind) == (0 : Int))) && (((ix a1 v11).Who) == ((ix a1 v15).Who)))) (v := .fptr 7 (List.map eItem a1) v15 2) _ _ (cz (IG 116 (.faddr 2 (.t 115)) 107 true) (by kernel_rfl)) rfl (by kernel_rfl) (fun hg => (.cons hg .nil))) ?_
      refine RegD.op (OpD.valg (g := (((ix a1 v11).Grand) == ((ix a1 v15).Grand)) || (((((ix a1 v11).Kind) == (0 : Int)) && (((ix a1 v15).Kind) == (0 : Int))) && (((ix a1 v11).Who) == ((ix a1 v15).Who)))) (v := vi ((ix a1 v15).To)) _ _ (cz (IG 117 (.load false 1 (.t 116)) 107 true) (by kernel_rfl)) rfl (fun hg => (ok_load_fm (v := vi ((ix a1 v15).To)) rfl c12 rfl)) (fun hg => (.cons hg .nil))) ?_
      refine RegD.op (OpD.valk (g := (((ix a1 v11).Grand) == ((ix a1 v15).Grand)) || (((((ix a1 v11).Kind) == (0 : Int)) && (((ix a1 v15).Kind) == (0 : Int))) && (((ix a1 v11).Who) == ((ix a1 v15).Who)))) (v := vb (decide (((ix a1 v11).From) < ((ix a1 v15).To)))) _ _ (cz (IG 118 (.bin .lss false (.t 112) (.t 117)) 107 true) (by kernel_rfl)) rfl (by kernel_rfl) (fun hg => (.cons hg (.cons hg .nil)))) ?_
      refine RegD.op (OpD.and (cz (I0 119 (.pick (.t 107) (.t 118) (.c (.p (.bool false))))) (by kernel_rfl)) rfl rfl (by first | exact hokA1 | exact hokA0 | simp)) ?_
      refine RegD.run 1 [(120, vb (((((ix a1 v11).Grand) == ((ix a1 v15).Grand)) || (((((ix a1 v11).Kind) == (0 : Int)) && (((ix a1 v15).Kind) == (0 : Int))) && (((ix a1 v11).Who) == ((ix a1 v15).Who)))) && (decide (((ix a1 v11).From) < ((ix a1 v15).To))))), (119, vb (((((ix a1 v11).Grand) == ((ix a1 v15).Grand)) || (((((ix a1 v11).Kind) == (0 : Int)) && (((ix a1 v15).Kind) == (0 : Int))) && (((ix a1 v11).Who) == ((ix a1 v15).Who)))) && (decide (((ix a1 v11).From) < ((ix a1 v15).To))))), (118, .cond ((((ix a1 v11).Grand) == ((ix a1 v15).Grand)) || (((((ix a1 v11).Kind) == (0 : Int)) && (((ix a1 v15).Kind) == (0 : Int))) && (((ix a1 v11).Who) == ((ix a1 v15).Who)))) (vb (decide (((ix a1 v11).From) < ((ix a1 v15).To))))), (117, .cond ((((ix a1 v11).Grand) == ((ix a1 v15).Grand)) || (((((ix a1 v11).Kind) == (0 : Int)) && (((ix a1 v15).Kind) == (0 : Int))) && (((ix a1 v11).Who) == ((ix a1 v15).Who)))) (vi ((ix a1 v15).To))), (116, .cond ((((ix a1 v11).Grand) == ((ix a1 v15).Grand)) || (((((ix a1 v11).Kind) == (0 : Int)) && (((ix a1 v15).Kind) == (0 : Int))) && (((ix a1 v11).Who) == ((ix a1 v15).Who)))) (.fptr 7 (List.map eItem a1) v15 2)), (115, .cond ((((ix a1 v11).Grand) == ((ix a1 v15).Grand)) || (((((ix a1 v11).Kind) == (0 : Int)) && (((ix a1 v15).Kind) == (0 : Int))) && (((ix a1 v11).Who) == ((ix a1 v15).Who)))) (.fptr 7 (List.map eItem a1) v15 0)), (114, .cond ((((ix a1 v11).Grand) == ((ix a1 v15).Grand)) || (((((ix a1 v11).Kind) == (0 : Int)) && (((ix a1 v15).Kind) == (0 : Int))) && (((ix a1 v11).Who) == ((ix a1 v15).Who)))) (vi ((v15 : Nat) : Int))), (113, .cond ((((ix a1 v11).Grand) == ((ix a1 v15).Grand)) || (((((ix a1 v11).Kind) == (0 : Int)) && (((ix a1 v15).Kind) == (0 : Int))) && (((ix a1 v11).Who) == ((ix a1 v15).Who)))) (eS 7 eItem a1)), (112, .cond ((((ix a1 v11).Grand) == ((ix a1 v15).Grand)) || (((((ix a1 v11).Kind) == (0 : Int)) && (((ix a1 v15).Kind) == (0 : Int))) && (((ix a1 v11).Who) == ((ix a1 v15).Who)))) (vi ((ix a1 v11).From))), (111, .cond ((((ix a1 v11).Grand) == ((ix a1 v15).Grand)) || (((((ix a1 v11).Kind) == (0 : Int)) && (((ix a1 v15).Kind) == (0 : Int))) && (((ix a1 v11).Who) == ((ix a1 v15).Who)))) (.fptr 7 (List.map eItem a1) v11 1)), (110, .cond ((((ix a1 v11).Grand) == ((ix a1 v15).Grand)) || (((((ix a1 v11).Kind) == (0 : Int)) && (((ix a1 v15).Kind) == (0 : Int))) && (((ix a1 v11).Who) == ((ix a1 v15).Who)))) (.fptr 7 (List.map eItem a1) v11 0)), (109, .cond ((((ix a1 v11).Grand) == ((ix a1 v15).Grand)) || (((((ix a1 v11).Kind) == (0 : Int)) && (((ix a1 v15).Kind) == (0 : Int))) && (((ix a1 v11).Who) == ((ix a1 v15).Who)))) (vi ((v11 : Nat) : Int))), (108, .cond ((((ix a1 v11).Grand) == ((ix a1 v15).Grand)) || (((((ix a1 v11).Kind) == (0 : Int)) && (((ix a1 v15).Kind) == (0 : Int))) && (((ix a1 v11).Who) == ((ix a1 v15).Who)))) (eS 7 eItem a1)), (107, vb ((((ix a1 v11).Grand) == ((ix a1 v15).Grand)) || (((((ix a1 v11).Kind) == (0 : Int)) && (((ix a1 v15).Kind) == (0 : Int))) && (((ix a1 v11).Who) == ((ix a1 v15).Who))))), (106, vb ((((ix a1 v11).Grand) == ((ix a1 v15).Grand)) || (((((ix a1 v11).Kind) == (0 : Int)) && (((ix a1 v15).Kind) == (0 : Int))) && (((ix a1 v11).Who) == ((ix a1 v15).Who))))), (105, .cond (!(((ix a1 v11).Grand) == ((ix a1 v15).Grand))) (vb (((((ix a1 v11).Kind) == (0 : Int)) && (((ix a1 v15).Kind) == (0 : Int))) && (((ix a1 v11).Who) == ((ix a1 v15).Who))))), (104, vb (((ix a1 v11).Grand) == ((ix a1 v15).Grand))), (103, vb (((ix a1 v11).Grand) == ((ix a1 v15).Grand))), (102, vt ((ix a1 v15).Grand)), (101, .fptr 7 (List.map eItem a1) v15 3), (100, .fptr 7 (List.map eItem a1) v15 0), (99, vi ((v15 : Nat) : Int)), (98, eS 7 eItem a1), (97, vt ((ix a1 v11).Grand)), (96, .fptr 7 (List.map eItem a1) v11 3), (95, .fptr 7 (List.map eItem a1) v11 0), (94, vi ((v11 : Nat) : Int)), (93, eS 7 eItem a1), (1, eS 7 eItem a1), (3, .ptr 0 0 0), (5, .ptr 1 0 0), (9, vi ((v11 : Nat) : Int)), (12, vi ((v15 : Nat) : Int)), (13, vb (((((ix a1 v11).Kind) == (0 : Int)) && (((ix a1 v15).Kind) == (0 : Int))) && (((ix a1 v11).Who) == ((ix a1 v15).Who))))] [some (.row 6 [.agg [eS 1 vt a0.Places, eS 1 vt a0.Technicians, eS 4 eRoad a0.Roads, eS 3 eGrand a0.Grands, vi a0.Change, vi a0.Lasts]]), some (.row 7 [.agg [vi a2.Kind, vi a2.From, vi a2.To, vt a2.Grand, vt a2.Place, vt a2.Who, vi a2.Deposit]]), none, none, none, none, none, none, none, none, none, none, none, none, none, none, none, none, none, none, none, none, none, none, none, none, none, none, none, none] (by kernel_rfl) ?_
      refine RegD.op (OpD.valk (g := ((((ix a1 v11).Grand) == ((ix a1 v15).Grand)) || (((((ix a1 v11).Kind) == (0 : Int)) && (((ix a1 v15).Kind) == (0 : Int))) && (((ix a1 v11).Who) == ((ix a1 v15).Who)))) && (decide (((ix a1 v11).From) < ((ix a1 v15).To)))) (v := eS 7 eItem a1) _ _ (cz (IG 121 (.mov (.t 1)) 120 true) (by kernel_rfl)) rfl (by kernel_rfl) (fun hg => (.cons rfl .nil))) ?_
      refine RegD.op (OpD.valk (g := ((((ix a1 v11).Grand) == ((ix a1 v15).Grand)) || (((((ix a1 v11).Kind) == (0 : Int)) && (((ix a1 v15).Kind) == (0 : Int))) && (((ix a1 v11).Who) == ((ix a1 v15).Who)))) && (decide (((ix a1 v11).From) < ((ix a1 v15).To)))) (v := vi ((v15 : Nat) : Int)) _ _ (cz (IG 122 (.mov (.t 12)) 120 true) (by kernel_rfl)) rfl (by kernel_rfl) (fun hg => (.cons rfl .nil))) ?_
      refine RegD.op (OpD.valg (g := ((((ix a1 v11).Grand) == ((ix a1 v15).Grand)) || (((((ix a1 v11).Kind) == (0 : Int)) && (((ix a1 v15).Kind) == (0 : Int))) && (((ix a1 v11).Who) == ((ix a1 v15).Who)))) && (decide (((ix a1 v11).From) < ((ix a1 v15).To)))) (v := .fptr 7 (List.map eItem a1) v15 0) _ _ (cz (IG 123 (.iaddr 7 (.t 121) (.t 122)) 120 true) (by kernel_rfl)) rfl (fun hg => (ok_iaddr_m (j := v15) rfl rfl rfl c12)) (fun hg => (.cons hg (.cons hg .nil)))) ?_
      refine RegD.op (OpD.valk (g := ((((ix a1 v11).Grand) == ((ix a1 v15).Grand)) || (((((ix a1 v11).Kind) == (0 : Int)) && (((ix a1 v15).Kind) == (0 : Int))) && (((ix a1 v11).Who) == ((ix a1 v15).Who)))) && (decide (((ix a1 v11).From) < ((ix a1 v15).To)))) (v := .fptr 7 (List.map eItem a1) v15 1) _ _ (cz (IG 124 (.faddr 1 (.t 123)) 120 true) (by kernel_rfl)) rfl (by kernel_rfl) (fun hg => (.cons hg .nil))) ?_
      refine RegD.op (OpD.valg (g := ((((ix a1 v11).Grand) == ((ix a1 v15).Grand)) || (((((ix a1 v11).Kind) == (0 : Int)) && (((ix a1 v15).Kind) == (0 : Int))) && (((ix a1 v11).Who) == ((ix a1 v15).Who)))) && (decide (((ix a1 v11).From) < ((ix a1 v15).To)))) (v := vi ((ix a1 v15).From)) _ _ (cz (IG 125 (.load false 1 (.t 124)) 120 true) (by kernel_rfl)) rfl (fun hg => (ok_load_fm (v := vi ((ix a1 v15).From)) rfl c12 rfl)) (fun hg => (.cons hg .nil))) ?_
      refine RegD.op (OpD.valk (g := ((((ix a1 v11).Grand) == ((ix a1 v15).Grand)) || (((((ix a1 v11).Kind) == (0 : Int)) && (((ix a1 v15).Kind) == (0 : Int))) && (((ix a1 v11).Who) == ((ix a1 v15).Who)))) && (decide (((ix a1 v11).From) < ((ix a1 v15).To)))) (v := eS 7 eItem a1) _ _ (cz (IG 126 (.mov (.t 1)) 120 true) (by kernel_rfl)) rfl (by kernel_rfl) (fun hg => (.cons rfl .nil))) ?_
      refine RegD.op (OpD.valk (g := ((((ix a1 v11).Grand) == ((ix a1 v15).Grand)) || (((((ix a1 v11).Kind) == (0 : Int)) && (((ix a1 v15).Kind) == (0 : Int))) && (((ix a1 v11).Who) == ((ix a1 v15).Who)))) && (decide (((ix a1 v11).From) < ((ix a1 v15).To)))) (v := vi ((v11 : Nat) : Int)) _ _ (cz (IG 127 (.mov (.t 9)) 120 true) (by kernel_rfl)) rfl (by kernel_rfl) (fun hg => (.cons rfl .nil))) ?_
      refine RegD.op (OpD.valg (g := ((((ix a1 v11).Grand) == ((ix a1 v15).Grand)) || (((((ix a1 v11).Kind) == (0 : Int)) && (((ix a1 v15).Kind) == (0 : Int))) && (((ix a1 v11).Who) == ((ix a1 v15).Who)))) && (decide (((ix a1 v11).From) < ((ix a1 v15).To)))) (v := .fptr 7 (List.map eItem a1) v11 0) _ _ (cz (IG 128 (.iaddr 7 (.t 126) (.t 127)) 120 true) (by kernel_rfl)) rfl (fun hg => (ok_iaddr_m (j := v11) rfl rfl rfl c4)) (fun hg => (.cons hg (.cons hg .nil)))) ?_
      refine RegD.op (OpD.valk (g := ((((ix a1 v11).Grand) == ((ix a1 v15).Grand)) || (((((ix a1 v11).Kind) == (0 : Int)) && (((ix a1 v15).Kind) == (0 : Int))) && (((ix a1 v11).Who) == ((ix a1 v15).Who)))) && (decide (((ix a1 v11).From) < ((ix a1 v15).To)))) (v := .fptr 7 (List.map eItem a1) v11 2) _ _ (cz (IG 129 (.faddr 2 (.t 128)) 120 true) (by kernel_rfl)) rfl (by kernel_rfl) (fun hg => (.cons hg .nil))) ?_
      refine RegD.op (OpD.valg (g := ((((ix a1 v11).Grand) == ((ix a1 v15).Grand)) || (((((ix a1 v11).Kind) == (0 : Int)) && (((ix a1 v15).Kind) == (0 : Int))) && (((ix a1 v11).Who) == ((ix a1 v15).Who)))) && (decide (((ix a1 v11).From) < ((ix a1 v15).To)))) (v := vi ((ix a1 v11).To)) _ _ (cz (IG 130 (.load false 1 (.t 129)) 120 true) (by kernel_rfl)) rfl (fun hg => (ok_load_fm (v := vi ((ix a1 v11).To)) rfl c4 rfl)) (fun hg => (.cons hg .nil))) ?_
      refine RegD.op (OpD.valk (g := ((((ix a1 v11).Grand) == ((ix a1 v15).Grand)) || (((((ix a1 v11).Kind) == (0 : Int)) && (((ix a1 v15).Kind) == (0 : Int))) && (((ix a1 v11).Who) == ((ix a1 v15).Who)))) && (decide (((ix a1 v11).From) < ((ix a1 v15).To)))) (v := vb (decide (((ix a1 v15).From) < ((ix a1 v11).To)))) _ _ (cz (IG 131 (.bin .lss false (.t 125) (.t 130)) 120 true) (by kernel_rfl)) rfl (by kernel_rfl) (fun hg => (.cons hg (.cons hg .nil)))) ?_
      refine RegD.op (OpD.and (cz (I0 132 (.pick (.t 120) (.t 131) (.c (.p (.bool false))))) (by kernel_rfl)) rfl rfl (by first | exact hokA1 | exact hokA0 | simp)) ?_
      refine RegD.done rfl (by kernel_rfl) (S' := ⟨[(1, eS 7 eItem a1), (3, .ptr 0 0 0), (5, .ptr 1 0 0), (9, vi ((v11 : Nat) : Int)), (12, vi ((v15 : Nat) : Int)), (132, vb ((((((ix a1 v11).Grand) == ((ix a1 v15).Grand)) || (((((ix a1 v11).Kind) == (0 : Int)) && (((ix a1 v15).Kind) == (0 : Int))) && (((ix a1 v11).Who) == ((ix a1 v15).Who)))) && (decide (((ix a1 v11).From) < ((ix a1 v15).To)))) && (decide (((ix a1 v15).From) < ((ix a1 v11).To)))))], [some (.row 6 [.agg [eS 1 vt a0.Places, eS 1 vt a0.Technicians, eS 4 eRoad a0.Roads, eS 3 eGrand a0.Grands, vi a0.Change, vi a0.Lasts]]), some (.row 7 [.agg [vi a2.Kind, vi a2.From, vi a2.To, vt a2.Grand, vt a2.Place, vt a2.Who, vi a2.Deposit]])]⟩) (sc [0, 1] (by decide) (by kernel_rfl) (.cons rfl (.cons rfl .nil)) rfl rfl) ?_
      refine TriE.cond (b := (((((ix a1 v11).Grand) == ((ix a1 v15).Grand)) || (((((ix a1 v11).Kind) == (0 : Int)) && (((ix a1 v15).Kind) == (0 : Int))) && (((ix a1 v11).Who) == ((ix a1 v15).Who)))) && (decide (((ix a1 v11).From) < ((ix a1 v15).To)))) && (decide (((ix a1 v15).From) < ((ix a1 v11).To)))) rfl (fun c13 => ?_) (fun c13 => ?_)
      · have h := cond_t h c13
        refine TriE.seq ?_
        refine TriE.run [(6, vb false)] [some (.row 6 [.agg [eS 1 vt a0.Places, eS 1 vt a0.Technicians, eS 4 eRoad a0.Roads, eS 3 eGrand a0.Grands, vi a0.Change, vi a0.Lasts]]), some (.row 7 [.agg [vi a2.Kind, vi a2.From, vi a2.To, vt a2.Grand, vt a2.Place, vt a2.Who, vi a2.Deposit]])] (by kernel_rfl) ?_
        refine TriE.ret ?_
        have h := Option.some.inj h
        subst h
        exact DoneS.ret (S' := ⟨[(6, vb false)], []⟩) (sc [] (by decide) (by kernel_rfl) ObRen.nil rfl rfl) rfl rfl
      have h := cond_f h c13
      refine TriE.skip ?_
      refine TriE.regJ ?_
      refine RegJ.run 1 [(1, eS 7 eItem a1), (3, .ptr 0 0 0), (5, .ptr 1 0 0), (9, vi ((v11 : Nat) : Int)), (64, vi ((v15 : Nat) : Int))] [some (.row 6 [.agg [eS 1 vt a0.Places, eS 1 vt a0.Technicians, eS 4 eRoad a0.Roads, eS 3 eGrand a0.Grands, vi a0.Change, vi a0.Lasts]]), some (.row 7 [.agg [vi a2.Kind, vi a2.From, vi a2.To, vt a2.Grand, vt a2.Place, vt a2.Who, vi a2.Deposit]])] (by kernel_rfl) ?_
      refine cK h fun c14 h => ?_
      refine jv (vi ((v15 + 1 : Nat) : Int)) (cz (I0 65 (.bin .add false (.t 64) (.c (.p (.int .i64 1))))) (by kernel_rfl)) (r_addn (i := v15) (j := 1) rfl rfl c14) rfl ?_
      refine jrd 1 [(1, eS 7 eItem a1), (3, .ptr 0 0 0), (5, .ptr 1 0 0), (9, vi ((v11 : Nat) : Int)), (12, vi ((v15 + 1 : Nat) : Int))] [some (.row 6 [.agg [eS 1 vt a0.Places, eS 1 vt a0.Technicians, eS 4 eRoad a0.Roads, eS 3 eGrand a0.Grands, vi a0.Change, vi a0.Lasts]]), some (.row 7 [.agg [vi a2.Kind, vi a2.From, vi a2.To, vt a2.Grand, vt a2.Place, vt a2.Who, vi a2.Deposit]])] (by kernel_rfl) rfl ?_
      exact Vs.intro (sl (by kernel_rfl)) ⟨(v15 + 1), rfl, h⟩
    have h := cond_f h c7
    refine TriE.exit ?_
    exact Vs.intro (sl (by kernel_rfl)) ⟨(), rfl, h⟩
  have h := cond_f h c4
  refine TriE.exit ?_
  exact Vs.intro (sl (by kernel_rfl)) ⟨(), rfl, h⟩
end Go.Proofs.Ytpmkdgnhllhaeaa.As
