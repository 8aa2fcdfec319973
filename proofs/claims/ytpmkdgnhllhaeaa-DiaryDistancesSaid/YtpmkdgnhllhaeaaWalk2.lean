/- The code computes what the plain functions say, part 2: no condition. -/
import Derived.Test.YtpmkdgnhllhaeaaWalk1
namespace Go.Proofs.Ytpmkdgnhllhaeaa.As
open Go Go.Proofs
set_option maxRecDepth 4000
set_option maxHeartbeats 1000000 in
theorem diary_FreeFrom_ok (n : Nat) (a0 : Diary) (a1 : List Item) (a2 : Item) (r : Int × Int) (h : diary_FreeFrom n a0 a1 a2 = some r) : FnL Try.prog 24 [.agg [eS 1 vt a0.Places, eS 1 vt a0.Technicians, eS 4 eRoad a0.Roads, eS 3 eGrand a0.Grands, vi a0.Change, vi a0.Lasts], eS 7 eItem a1, .agg [vi a2.Kind, vi a2.From, vi a2.To, vt a2.Grand, vt a2.Place, vt a2.Who, vi a2.Deposit]] [] (.tup [vi r.2, vi r.1]) [] := by
 dsimp only [diary_FreeFrom] at h
 refine fo [6, 7] Try.call24 Try.func24 rfl ?_
 refine sko (.d (.k (.i 3 (.ptr 0 0 0) (.i 5 (.ptr 1 0 0) .n)))) [some (.row 6 [.agg [eS 1 vt a0.Places, eS 1 vt a0.Technicians, eS 4 eRoad a0.Roads, eS 3 eGrand a0.Grands, vi a0.Change, vi a0.Lasts]]), some (.row 7 [.agg [vi a2.Kind, vi a2.From, vi a2.To, vt a2.Grand, vt a2.Place, vt a2.Who, vi a2.Deposit]])] ?_
 refine TriE.seqK2 h (fun (v4 : Int) => St.mk [(1, eS 7 eItem a1), (3, .ptr 0 0 0), (5, .ptr 1 0 0), (8, .p (.pointer none)), (9, vi v4)] [some (.row 6 [.agg [eS 1 vt a0.Places, eS 1 vt a0.Technicians, eS 4 eRoad a0.Roads, eS 3 eGrand a0.Grands, vi a0.Change, vi a0.Lasts]]), some (.row 7 [.agg [vi a2.Kind, vi a2.From, vi a2.To, vt a2.Grand, vt a2.Place, vt a2.Who, vi a2.Deposit]])]) (fun (t : Int × (List (Int × List (Arr2_Str × Int)))) => match t with | (v11, v12) => St.mk [(1, eS 7 eItem a1), (3, .ptr 0 0 0), (5, .ptr 1 0 0), (8, .ptr 3 0 0), (9, vi v11)] [some (.row 6 [.agg [eS 1 vt a0.Places, eS 1 vt a0.Technicians, eS 4 eRoad a0.Roads, eS 3 eGrand a0.Grands, vi a0.Change, vi a0.Lasts]]), some (.row 7 [.agg [vi a2.Kind, vi a2.From, vi a2.To, vt a2.Grand, vt a2.Place, vt a2.Who, vi a2.Deposit]]), some (.mp (mpE vi (eM eArr2_Str vi) v12)), some (.row 7 [.agg [eS 1 vt a0.Places, eS 1 vt a0.Technicians, eS 4 eRoad a0.Roads, eS 3 eGrand a0.Grands, vi a0.Change, vi a0.Lasts, .map 2]])]) ?_ ?_ ?_
 ·rintro v4 h
  refine q7 ?_
  refine sk (.k4 (.k (.i 28 (vb (v4 != (0 : Int))) .n))) ?_
  refine tc h (fun c1 h => ?_) (fun c1 h => ?_)
  ·refine sk (.i 6 (vi 0) (.i 7 (vi v4) .n)) ?_
   refine q3 ?_
   have h := si h
   subst h
   exact DoneS.ret (S' := ⟨[(6, vi 0), (7, vi v4)], []⟩) (sc [] (by decide) (by kernel_rfl) ObRen.nil rfl rfl) rfl rfl
  refine sj ?_
  refine rk 1 (.k4 (.i 33 (eS 7 eItem a1) .n)) ?_
  refine jo 34 (.len 0 33) (ok_len_m rfl) ?_
  refine jo 35 (.bin .geq false 34 (ki 100)) (n_geq (i := a1.length) (j := 100) rfl rfl) ?_
  refine jk 1 (.d2 (.k4 (.i 32 (vb (decide (100 ≤ a1.length))) .n))) ?_
  refine tc h (fun c2 h => ?_) (fun c2 h => ?_)
  ·refine sk (.i 6 (vi 0) (.i 7 (vi 8) .n)) ?_
   refine q3 ?_
   have h := si h
   subst h
   exact DoneS.ret (S' := ⟨[(6, vi 0), (7, vi 8)], []⟩) (sc [] (by decide) (by kernel_rfl) ObRen.nil rfl rfl) rfl rfl
  refine q2 ?_
  refine q1 ?_
  refine sj ?_
  refine rk 2 (.k4 (.i 36 (.agg [eS 1 vt a0.Places, eS 1 vt a0.Technicians, eS 4 eRoad a0.Roads, eS 3 eGrand a0.Grands, vi a0.Change, vi a0.Lasts]) (.i 37 (.agg [vi a2.Kind, vi a2.From, vi a2.To, vt a2.Grand, vt a2.Place, vt a2.Who, vi a2.Deposit]) .n))) ?_
  refine bK h fun y5 hy5 h => ?_
  refine jc 38 [36, 37] (diary_checkItem_ok n a0 a2 y5 hy5) ?_
  refine jk 1 (.d (.k4 (.i 10 (vi y5) .n))) ?_
  refine sk (.k4 (.k (.i 40 (vb (y5 != (0 : Int))) .n))) ?_
  refine tc h (fun c3 h => ?_) (fun c3 h => ?_)
  ·refine sk (.i 6 (vi 0) (.i 7 (vi y5) .n)) ?_
   refine q3 ?_
   have h := si h
   subst h
   exact DoneS.ret (S' := ⟨[(6, vi 0), (7, vi y5)], []⟩) (sc [] (by decide) (by kernel_rfl) ObRen.nil rfl rfl) rfl rfl
  refine q2 ?_
  refine sko (.k4 (.i 11 (.own 2 0 1) .n)) [some (.row 6 [.agg [eS 1 vt a0.Places, eS 1 vt a0.Technicians, eS 4 eRoad a0.Roads, eS 3 eGrand a0.Grands, vi a0.Change, vi a0.Lasts]]), some (.row 7 [.agg [vi a2.Kind, vi a2.From, vi a2.To, vt a2.Grand, vt a2.Place, vt a2.Who, vi a2.Deposit]]), some (.row 1 [vi a2.From])] ?_
  refine TriE.seqK h (fun (_ : Unit) => St.mk [(1, eS 7 eItem a1), (5, .ptr 0 0 0), (8, .p (.pointer none)), (11, .own 1 0 1)] [some (.row 7 [.agg [vi a2.Kind, vi a2.From, vi a2.To, vt a2.Grand, vt a2.Place, vt a2.Who, vi a2.Deposit]]), some (.row 1 [vi a2.From])]) ?_ ?_
  ·rintro ⟨⟩ h
   refine sj ?_
   refine rk 1 (.k4 (.i 81 (.own 1 0 1) .n)) ?_
   refine bK h fun y6 hy6 h => ?_
   refine jco (.tup []) 82 [81] (slices_Sort_int_ok n ([a2.From] : List Int) y6 hy6) [1] rfl (.same (row_ren vi_frz _ _ _) .nil) (.same (row_ren vi_frz _ _ _) .nil) rfl ?_
   refine jf (.d (.k4 .n)) ?_
   refine sj ?_
   refine rk 4 (.k4 (.i 84 (vi a2.To) (.i 86 (vi a2.From) .n))) ?_
   refine cK h fun c7 h => ?_
   refine jo 87 (.bin .sub false 84 86) (r_sub rfl rfl c7) ?_
   refine jk 1 (.d (.k4 (.i 16 (vi (a2.To - a2.From)) .n))) ?_
   refine TriE.seqK h (fun (_ : Unit) => St.mk [] []) ?_ ?_
   ·rintro ⟨⟩ h
    refine sk (.i 6 (vi 0) (.i 7 (vi 12) .n)) ?_
    refine q3 ?_
    have h := si h
    subst h
    exact DoneS.ret Sees.refl rfl rfl
   intro k4 h
   refine sj ?_
   refine rk 1 (.k3 (.d (.k (.i 88 (.own 1 0 1) .n)))) ?_
   refine bK h fun y7 hy7 h => ?_
   refine jco (.own 1 0 y7.1) 89 [88] (slices_Compact_int_ok n y6 0 1 y7 hy7) [1] rfl (.same (row_ren vi_frz _ _ _) .nil) (.same (row_ren vi_frz _ _ _) .nil) rfl ?_
   refine jk 2 (.d (.k4 (.i 89 (.own 1 0 y7.1) (.i 90 (vi ((y7.1 : Nat) : Int)) (.i 91 (vi 0) .n))))) ?_
   refine q4 ?_
   refine ts (.k4 (.k2 (.i 91 (vi 0) .n))) ?_
   refine TriE.loopN h (fun (v9 : Nat) => St.mk [(1, eS 7 eItem a1), (5, .ptr 0 0 0), (8, .p (.pointer none)), (16, vi (a2.To - a2.From)), (89, .own 1 0 y7.1), (90, vi ((y7.1 : Nat) : Int)), (91, vi v9)] [some (.row 7 [.agg [vi a2.Kind, vi a2.From, vi a2.To, vt a2.Grand, vt a2.Place, vt a2.Who, vi a2.Deposit]]), some (.row 1 (List.map vi y7.2))]) rfl ?_
   clear h
   rintro back v9 h
   dsimp only [diary_FreeFrom_L2] at h
   refine sj ?_
   refine jo 92 (.bin .lss false 91 90) (n_lss (i := v9) (j := y7.1) rfl rfl) ?_
   refine jf (.d (.k4 (.k3 (.i 92 (vb (decide (v9 < y7.1))) .n)))) ?_
   refine q1 ?_
   refine tc h (fun c8 h => ?_) (fun c8 h => ?_)
   ·refine q2 ?_
    refine TriE.seqK h (fun (_ : Unit) => St.mk [(1, eS 7 eItem a1), (5, .ptr 0 0 0), (8, .p (.pointer none)), (16, vi (a2.To - a2.From)), (89, .own 1 0 y7.1), (90, vi ((y7.1 : Nat) : Int)), (91, vi v9)] [some (.row 7 [.agg [vi a2.Kind, vi a2.From, vi a2.To, vt a2.Grand, vt a2.Place, vt a2.Who, vi a2.Deposit]]), some (.row 1 (List.map vi y7.2))]) ?_ ?_
    ·rintro ⟨⟩ h
     refine q6 ?_
     refine cK h fun c14 h => ?_
     refine jo 122 (.bin .add false 91 (ki 1)) (r_addn (i := v9) (j := 1) rfl rfl c14) ?_
     refine jk 1 (.d (.k4 (.k2 (.i 91 (vi ((v9 + 1 : Nat) : Int)) .n)))) ?_
     exact Vs.intro sy ⟨(v9 + 1), rfl, h⟩
    intro k3 h
    refine q4 ?_
    refine sj ?_
    refine jo 93 (.iaddr 1 89 91) (ok_iaddr_o0 (j := v9) rfl rfl rfl rfl c8) ?_
    refine cK h fun c9 h => ?_
    refine jo 94 (.load false 1 93) (ok_load_pm (l := y7.2) (e := vi) (v := vi (ix y7.2 v9)) rfl rfl c9 rfl) ?_
    refine jk 1 (.d2 (.k4 (.k3 (.i 18 (vi (ix y7.2 v9)) .n)))) ?_
    refine q1 ?_
    refine sj ?_
    refine rk 5 (.k4 (.k4 (.i 99 (vb (decide ((ix y7.2 v9) < a2.From))) .n))) ?_
    refine gj (vi (ix y7.2 v9)) 100 (.mov 18) 99 false rfl ?_
    refine gj (vi (a2.To - a2.From)) 101 (.mov 16) 99 false rfl ?_
    refine cK h fun c10 h => ?_
    refine gv 102 (.bin .add false 100 101) 99 false rfl (fun hg => (r_add rfl rfl (gor c10 hg))) (fun hg => (.cons hg (.cons hg .nil))) ?_
    refine gk (vb (decide ((1000000 : Int) < ((ix y7.2 v9) + (a2.To - a2.From))))) 103 (.bin .gtr false 102 (ki 1000000)) 99 false rfl (fun hg => (.cons hg (.cons rfl .nil))) ?_
    refine po 104 99 103 rfl rfl ?_
    refine jf (.d4 (.d (.k4 (.k4 (.i 104 (vb ((decide ((ix y7.2 v9) < a2.From)) || (decide ((1000000 : Int) < ((ix y7.2 v9) + (a2.To - a2.From)))))) .n))))) ?_
    refine tc h (fun c11 h => ?_) (fun c11 h => ?_)
    ·refine q5 ?_
     exact Vs.intro sy ⟨(), rfl, h⟩
    refine q2 ?_
    refine sko (.k4 (.k4 (.i 19 (.ptr 2 0 0) .n))) [some (.row 7 [.agg [vi a2.Kind, vi a2.From, vi a2.To, vt a2.Grand, vt a2.Place, vt a2.Who, vi a2.Deposit]]), some (.row 1 (List.map vi y7.2)), some (.row 7 [.agg [vi a2.Kind, vi a2.From, vi a2.To, vt a2.Grand, vt a2.Place, vt a2.Who, vi a2.Deposit]])] ?_
    refine sj ?_
    refine rk 3 (.k4 (.k4 (.k (.i 106 (vi (ix y7.2 v9)) (.i 107 (vi (ix y7.2 v9)) (.i 108 (vi (a2.To - a2.From)) .n)))))) ?_
    refine cK h fun c12 h => ?_
    refine jo 109 (.bin .add false 107 108) (r_add rfl rfl c12) ?_
    refine jko 4 (.d (.k4 (.k4 (.k .n)))) [some (.row 7 [.agg [vi a2.Kind, vi a2.From, vi a2.To, vt a2.Grand, vt a2.Place, vt a2.Who, vi a2.Deposit]]), some (.row 1 (List.map vi y7.2)), some (.row 7 [.agg [vi a2.Kind, vi (ix y7.2 v9), vi ((ix y7.2 v9) + (a2.To - a2.From)), vt a2.Grand, vt a2.Place, vt a2.Who, vi a2.Deposit]])] ?_
    refine sj ?_
    refine rk 3 (.k4 (.k4 (.i 113 (.p (.pointer none)) (.i 114 (eS 7 eItem a1) (.i 115 (.agg [vi a2.Kind, vi (ix y7.2 v9), vi ((ix y7.2 v9) + (a2.To - a2.From)), vt a2.Grand, vt a2.Place, vt a2.Who, vi a2.Deposit]) .n))))) ?_
    refine bK h fun y10 hy10 h => ?_
    refine jc 116 [113, 114, 115] (diary_plan_add_ok n a1 (Item.mk a2.Kind (ix y7.2 v9) ((ix y7.2 v9) + (a2.To - a2.From)) a2.Grand a2.Place a2.Who a2.Deposit) y10 hy10) ?_
    refine jk 5 (.d (.k4 (.k4 (.i 21 (vi y10.1) .n)))) ?_
    refine sk (.k4 (.k4 (.i 120 (vb (y10.1 == (0 : Int))) .n))) ?_
    refine tc h (fun c13 h => ?_) (fun c13 h => ?_)
    ·refine sk (.i 6 (vi (ix y7.2 v9)) (.i 7 (vi 0) .n)) ?_
     refine q3 ?_
     have h := si h
     subst h
     exact DoneS.ret (S' := ⟨[(6, vi (ix y7.2 v9)), (7, vi 0)], []⟩) (sc [] (by decide) (by kernel_rfl) ObRen.nil rfl rfl) rfl rfl
    refine q2 ?_
    exact Vs.intro (sc [0, 1] (by decide) (by kernel_rfl) (.cons rfl (obRen_row vi_frz rfl .nil)) rfl rfl) ⟨(), rfl, h⟩
   refine q5 ?_
   exact Vs.intro (sc [] (by decide) (by kernel_rfl) ObRen.nil rfl rfl) ⟨(), rfl, h⟩
  intro k2 h
  refine sj ?_
  refine rk 1 (.k4 (.k (.i 45 (eS 7 eItem a1) .n))) ?_
  refine jo 46 (.len 0 45) (ok_len_m rfl) ?_
  refine jk 1 (.d (.k4 (.k2 (.i 46 (vi (a1.length : Int)) (.i 47 (vi 0) .n))))) ?_
  refine q4 ?_
  refine TriE.loopN h (fun (_ : Unit) => St.mk [(1, eS 7 eItem a1), (3, .ptr 0 0 0), (5, .ptr 1 0 0), (8, .p (.pointer none)), (11, .own 2 0 1), (45, eS 7 eItem a1), (46, vi (a1.length : Int)), (47, vi 0)] [some (.row 6 [.agg [eS 1 vt a0.Places, eS 1 vt a0.Technicians, eS 4 eRoad a0.Roads, eS 3 eGrand a0.Grands, vi a0.Change, vi a0.Lasts]]), some (.row 7 [.agg [vi a2.Kind, vi a2.From, vi a2.To, vt a2.Grand, vt a2.Place, vt a2.Who, vi a2.Deposit]]), some (.row 1 [vi a2.From])]) rfl ?_
  clear h
  rintro back ⟨⟩ h
  dsimp only [diary_FreeFrom_L1] at h
  refine sj ?_
  refine jo 48 (.bin .lss false 47 46) (n_lss (i := 0) (j := a1.length) rfl rfl) ?_
  refine jf (.d (.k4 (.k4 (.i 48 (vb (decide (0 < a1.length))) .n)))) ?_
  refine q1 ?_
  refine tc h (fun c4 h => ?_) (fun c4 h => ?_)
  ·refine q2 ?_
   refine q7 ?_
   refine sj ?_
   refine jo 49 (.iaddr 7 45 47) (ok_iaddr_m (j := 0) rfl rfl rfl c4) ?_
   refine jo 50 (.load true 7 49) (ok_load_fm (v := .agg [vi ((ix a1 0).Kind), vi ((ix a1 0).From), vi ((ix a1 0).To), vt ((ix a1 0).Grand), vt ((ix a1 0).Place), vt ((ix a1 0).Who), vi ((ix a1 0).Deposit)]) rfl c4 rfl) ?_
   refine jko 2 (.d2 (.k4 (.k4 (.i 13 (.ptr 3 0 0) .n)))) [some (.row 6 [.agg [eS 1 vt a0.Places, eS 1 vt a0.Technicians, eS 4 eRoad a0.Roads, eS 3 eGrand a0.Grands, vi a0.Change, vi a0.Lasts]]), some (.row 7 [.agg [vi a2.Kind, vi a2.From, vi a2.To, vt a2.Grand, vt a2.Place, vt a2.Who, vi a2.Deposit]]), some (.row 1 [vi a2.From]), some (.row 7 [.agg [vi ((ix a1 0).Kind), vi ((ix a1 0).From), vi ((ix a1 0).To), vt ((ix a1 0).Grand), vt ((ix a1 0).Place), vt ((ix a1 0).Who), vi ((ix a1 0).Deposit)]])] ?_
   refine sj ?_
   refine rk 9 (.k4 (.d (.k4 (.i 51 (.own 2 0 1) (.i 53 (vi ((ix a1 0).From)) (.i 55 (vi ((ix a1 0).To)) (.i 57 (vi ((ix a1 0).To)) (.i 59 (vi a0.Change) .n)))))))) ?_
   refine cK h fun c5 h => ?_
   refine jo 60 (.bin .add false 57 59) (r_add rfl rfl c5) ?_
   refine rko 1 (.d (.k4 (.k4 (.k (.i 61 (.own 4 0 3) .n))))) [some (.row 6 [.agg [eS 1 vt a0.Places, eS 1 vt a0.Technicians, eS 4 eRoad a0.Roads, eS 3 eGrand a0.Grands, vi a0.Change, vi a0.Lasts]]), some (.row 7 [.agg [vi a2.Kind, vi a2.From, vi a2.To, vt a2.Grand, vt a2.Place, vt a2.Who, vi a2.Deposit]]), some (.row 1 [vi a2.From]), some (.row 7 [.agg [vi ((ix a1 0).Kind), vi ((ix a1 0).From), vi ((ix a1 0).To), vt ((ix a1 0).Grand), vt ((ix a1 0).Place), vt ((ix a1 0).Who), vi ((ix a1 0).Deposit)]]), some (.row 1 [vi ((ix a1 0).From), vi ((ix a1 0).To), vi (((ix a1 0).To) + a0.Change)])] ?_
   refine cK h fun c6 h => ?_
   refine jx 62 (.app 1 8 51 61) _ (ok_app_own (l := ([a2.From] : List Int)) (l2 := ([(ix a1 0).From, (ix a1 0).To, ((ix a1 0).To) + a0.Change] : List Int)) (e := vi) (u := .own 4 0 3) rfl rfl rfl rfl rfl c6) rfl rfl ?_
   refine jk 1 (.d (.k4 (.k4 (.i 11 (.own 5 0 ((([a2.From] : List Int) ++ ([(ix a1 0).From, (ix a1 0).To, ((ix a1 0).To) + a0.Change] : List Int)).length)) .n)))) ?_
   refine sj ?_
   refine rk 5 (.k4 (.k4 (.k (.i 64 (.p (.pointer none)) (.i 66 (vt ((ix a1 0).Place)) (.i 68 (vt a2.Place) .n)))))) ?_
   cases h
  refine q5 ?_
  exact Vs.intro (sc [1, 2] (by decide) (by kernel_rfl) (.cons rfl (.cons rfl .nil)) rfl rfl) ⟨(), rfl, h⟩
 ·rintro ⟨v11, v12⟩ h
  refine q7 ?_
  refine sk (.k4 (.k (.i 28 (vb (v11 != (0 : Int))) .n))) ?_
  refine tc h (fun c15 h => ?_) (fun c15 h => ?_)
  ·refine sk (.i 6 (vi 0) (.i 7 (vi v11) .n)) ?_
   refine q3 ?_
   have h := si h
   subst h
   exact DoneS.ret (S' := ⟨[(6, vi 0), (7, vi v11)], []⟩) (sc [] (by decide) (by kernel_rfl) ObRen.nil rfl rfl) rfl rfl
  refine sj ?_
  refine rk 1 (.k4 (.i 33 (eS 7 eItem a1) .n)) ?_
  refine jo 34 (.len 0 33) (ok_len_m rfl) ?_
  refine jo 35 (.bin .geq false 34 (ki 100)) (n_geq (i := a1.length) (j := 100) rfl rfl) ?_
  refine jk 1 (.d2 (.k4 (.i 32 (vb (decide (100 ≤ a1.length))) .n))) ?_
  refine tc h (fun c16 h => ?_) (fun c16 h => ?_)
  ·refine sk (.i 6 (vi 0) (.i 7 (vi 8) .n)) ?_
   refine q3 ?_
   have h := si h
   subst h
   exact DoneS.ret (S' := ⟨[(6, vi 0), (7, vi 8)], []⟩) (sc [] (by decide) (by kernel_rfl) ObRen.nil rfl rfl) rfl rfl
  refine q2 ?_
  refine q1 ?_
  refine sj ?_
  refine rk 2 (.k4 (.i 36 (.agg [eS 1 vt a0.Places, eS 1 vt a0.Technicians, eS 4 eRoad a0.Roads, eS 3 eGrand a0.Grands, vi a0.Change, vi a0.Lasts]) (.i 37 (.agg [vi a2.Kind, vi a2.From, vi a2.To, vt a2.Grand, vt a2.Place, vt a2.Who, vi a2.Deposit]) .n))) ?_
  refine bK h fun y13 hy13 h => ?_
  refine jc 38 [36, 37] (diary_checkItem_ok n a0 a2 y13 hy13) ?_
  refine jk 1 (.d (.k4 (.i 10 (vi y13) .n))) ?_
  refine sk (.k4 (.k (.i 40 (vb (y13 != (0 : Int))) .n))) ?_
  refine tc h (fun c17 h => ?_) (fun c17 h => ?_)
  ·refine sk (.i 6 (vi 0) (.i 7 (vi y13) .n)) ?_
   refine q3 ?_
   have h := si h
   subst h
   exact DoneS.ret (S' := ⟨[(6, vi 0), (7, vi y13)], []⟩) (sc [] (by decide) (by kernel_rfl) ObRen.nil rfl rfl) rfl rfl
  refine q2 ?_
  refine sko (.k4 (.i 11 (.own 4 0 1) .n)) [some (.row 6 [.agg [eS 1 vt a0.Places, eS 1 vt a0.Technicians, eS 4 eRoad a0.Roads, eS 3 eGrand a0.Grands, vi a0.Change, vi a0.Lasts]]), some (.row 7 [.agg [vi a2.Kind, vi a2.From, vi a2.To, vt a2.Grand, vt a2.Place, vt a2.Who, vi a2.Deposit]]), some (.mp (mpE vi (eM eArr2_Str vi) v12)), some (.row 7 [.agg [eS 1 vt a0.Places, eS 1 vt a0.Technicians, eS 4 eRoad a0.Roads, eS 3 eGrand a0.Grands, vi a0.Change, vi a0.Lasts, .map 2]]), some (.row 1 [vi a2.From])] ?_
  refine TriE.seqK h (fun (t : (List Int) × (List (Int × List (Arr2_Str × Int)))) => match t with | (v23, v24) => St.mk [(1, eS 7 eItem a1), (5, .ptr 0 0 0), (8, .ptr 2 0 0), (11, .own 3 0 v23.length)] [some (.row 7 [.agg [vi a2.Kind, vi a2.From, vi a2.To, vt a2.Grand, vt a2.Place, vt a2.Who, vi a2.Deposit]]), some (.mp (mpE vi (eM eArr2_Str vi) v24)), some (.row 7 [.agg [eS 1 vt a0.Places, eS 1 vt a0.Technicians, eS 4 eRoad a0.Roads, eS 3 eGrand a0.Grands, vi a0.Change, vi a0.Lasts, .map 1]]), some (.row 1 (List.map vi v23))]) ?_ ?_
  ·rintro ⟨v23, v24⟩ h
   refine sj ?_
   refine rk 1 (.k4 (.i 81 (.own 3 0 v23.length) .n)) ?_
   refine bK h fun y25 hy25 h => ?_
   refine jco (.tup []) 82 [81] (slices_Sort_int_ok n v23 y25 hy25) [3] rfl (.same (row_ren vi_frz _ _ _) .nil) (.same (row_ren vi_frz _ _ _) .nil) rfl ?_
   refine cK h fun c25 h => ?_
   refine RegJ.sees (S' := ⟨[(1, eS 7 eItem a1), (5, .ptr 0 0 0), (8, .ptr 2 0 0), (11, .own 3 0 y25.length), (81, .own 3 0 y25.length), (82, .tup [])], [some (.row 7 [.agg [vi a2.Kind, vi a2.From, vi a2.To, vt a2.Grand, vt a2.Place, vt a2.Who, vi a2.Deposit]]), some (.mp (mpE vi (eM eArr2_Str vi) v24)), some (.row 7 [.agg [eS 1 vt a0.Places, eS 1 vt a0.Technicians, eS 4 eRoad a0.Roads, eS 3 eGrand a0.Grands, vi a0.Change, vi a0.Lasts, .map 1]]), some (.row 1 (List.map vi y25))]⟩) (Sees.cov (Cov.mk2 (rs := [0, 1, 2, 3]) (by decide) rfl rfl (.cons (.inl rfl) (.cons (.inl rfl) (.cons (.inl rfl) (.cons (.inl (by rw [show v23.length = y25.length from of_decide_eq_true c25]; rfl)) (.cons (.inl (by rw [show v23.length = y25.length from of_decide_eq_true c25]; rfl)) (.cons (.inl rfl) .nil)))))) (.cons rfl (obRen_mp vi_frz (eM_frz eArr2_Str vi) rfl (.cons rfl (obRen_row vi_frz rfl .nil)))))) ?_
   refine jf (.k4 .n) ?_
   refine sj ?_
   refine rk 4 (.k4 (.i 84 (vi a2.To) (.i 86 (vi a2.From) .n))) ?_
   refine cK h fun c26 h => ?_
   refine jo 87 (.bin .sub false 84 86) (r_sub rfl rfl c26) ?_
   refine jk 1 (.d (.k4 (.i 16 (vi (a2.To - a2.From)) .n))) ?_
   refine TriE.seqK h (fun (_ : Unit) => St.mk [] []) ?_ ?_
   ·rintro ⟨⟩ h
    refine sk (.i 6 (vi 0) (.i 7 (vi 12) .n)) ?_
    refine q3 ?_
    have h := si h
    subst h
    exact DoneS.ret Sees.refl rfl rfl
   intro k9 h
   refine sj ?_
   refine rk 1 (.k3 (.d (.k (.i 88 (.own 3 0 y25.length) .n)))) ?_
   refine bK h fun y26 hy26 h => ?_
   refine jco (.own 3 0 y26.1) 89 [88] (slices_Compact_int_ok n y25 0 y25.length y26 hy26) [3] rfl (.same (row_ren vi_frz _ _ _) .nil) (.same (row_ren vi_frz _ _ _) .nil) rfl ?_
   refine cK h fun c27 h => ?_
   refine RegJ.sees (S' := ⟨[(1, eS 7 eItem a1), (5, .ptr 0 0 0), (8, .ptr 2 0 0), (16, vi (a2.To - a2.From)), (88, .own 3 0 y26.2.length), (89, .own 3 0 y26.1)], [some (.row 7 [.agg [vi a2.Kind, vi a2.From, vi a2.To, vt a2.Grand, vt a2.Place, vt a2.Who, vi a2.Deposit]]), some (.mp (mpE vi (eM eArr2_Str vi) v24)), some (.row 7 [.agg [eS 1 vt a0.Places, eS 1 vt a0.Technicians, eS 4 eRoad a0.Roads, eS 3 eGrand a0.Grands, vi a0.Change, vi a0.Lasts, .map 1]]), some (.row 1 (List.map vi y26.2))]⟩) (Sees.cov (Cov.mk2 (rs := [0, 1, 2, 3]) (by decide) rfl rfl (.cons (.inl rfl) (.cons (.inl rfl) (.cons (.inl rfl) (.cons (.inl rfl) (.cons (.inl (by rw [show y25.length = y26.2.length from of_decide_eq_true c27]; rfl)) (.cons (.inl rfl) .nil)))))) (.cons rfl (obRen_mp vi_frz (eM_frz eArr2_Str vi) rfl (.cons rfl (obRen_row vi_frz rfl .nil)))))) ?_
   refine jk 2 (.k4 (.d (.k (.i 90 (vi ((y26.1 : Nat) : Int)) (.i 91 (vi 0) .n))))) ?_
   refine q4 ?_
   refine ts (.k4 (.k2 (.i 91 (vi 0) .n))) ?_
   refine TriE.loopN h (fun (t : Nat × (List (Int × List (Arr2_Str × Int)))) => match t with | (v29, v30) => St.mk [(1, eS 7 eItem a1), (5, .ptr 0 0 0), (8, .ptr 2 0 0), (16, vi (a2.To - a2.From)), (89, .own 3 0 y26.1), (90, vi ((y26.1 : Nat) : Int)), (91, vi v29)] [some (.row 7 [.agg [vi a2.Kind, vi a2.From, vi a2.To, vt a2.Grand, vt a2.Place, vt a2.Who, vi a2.Deposit]]), some (.mp (mpE vi (eM eArr2_Str vi) v30)), some (.row 7 [.agg [eS 1 vt a0.Places, eS 1 vt a0.Technicians, eS 4 eRoad a0.Roads, eS 3 eGrand a0.Grands, vi a0.Change, vi a0.Lasts, .map 1]]), some (.row 1 (List.map vi y26.2))]) rfl ?_
   clear h
   rintro back ⟨v29, v30⟩ h
   dsimp only [diary_FreeFrom_L4] at h
   refine sj ?_
   refine jo 92 (.bin .lss false 91 90) (n_lss (i := v29) (j := y26.1) rfl rfl) ?_
   refine jf (.d (.k4 (.k3 (.i 92 (vb (decide (v29 < y26.1))) .n)))) ?_
   refine q1 ?_
   refine tc h (fun c28 h => ?_) (fun c28 h => ?_)
   ·refine q2 ?_
    refine TriE.seqK h (fun (v32 : (List (Int × List (Arr2_Str × Int)))) => St.mk [(1, eS 7 eItem a1), (5, .ptr 0 0 0), (8, .ptr 2 0 0), (16, vi (a2.To - a2.From)), (89, .own 3 0 y26.1), (90, vi ((y26.1 : Nat) : Int)), (91, vi v29)] [some (.row 7 [.agg [vi a2.Kind, vi a2.From, vi a2.To, vt a2.Grand, vt a2.Place, vt a2.Who, vi a2.Deposit]]), some (.mp (mpE vi (eM eArr2_Str vi) v32)), some (.row 7 [.agg [eS 1 vt a0.Places, eS 1 vt a0.Technicians, eS 4 eRoad a0.Roads, eS 3 eGrand a0.Grands, vi a0.Change, vi a0.Lasts, .map 1]]), some (.row 1 (List.map vi y26.2))]) ?_ ?_
    ·rintro v32 h
     refine q6 ?_
     refine cK h fun c34 h => ?_
     refine jo 122 (.bin .add false 91 (ki 1)) (r_addn (i := v29) (j := 1) rfl rfl c34) ?_
     refine jk 1 (.d (.k4 (.k2 (.i 91 (vi ((v29 + 1 : Nat) : Int)) .n)))) ?_
     exact Vs.intro sy ⟨(v29 + 1, v32), rfl, h⟩
    intro k8 h
    refine q4 ?_
    refine sj ?_
    refine jo 93 (.iaddr 1 89 91) (ok_iaddr_o0 (j := v29) rfl rfl rfl rfl c28) ?_
    refine cK h fun c29 h => ?_
    refine jo 94 (.load false 1 93) (ok_load_pm (l := y26.2) (e := vi) (v := vi (ix y26.2 v29)) rfl rfl c29 rfl) ?_
    refine jk 1 (.d2 (.k4 (.k3 (.i 18 (vi (ix y26.2 v29)) .n)))) ?_
    refine q1 ?_
    refine sj ?_
    refine rk 5 (.k4 (.k4 (.i 99 (vb (decide ((ix y26.2 v29) < a2.From))) .n))) ?_
    refine gj (vi (ix y26.2 v29)) 100 (.mov 18) 99 false rfl ?_
    refine gj (vi (a2.To - a2.From)) 101 (.mov 16) 99 false rfl ?_
    refine cK h fun c30 h => ?_
    refine gv 102 (.bin .add false 100 101) 99 false rfl (fun hg => (r_add rfl rfl (gor c30 hg))) (fun hg => (.cons hg (.cons hg .nil))) ?_
    refine gk (vb (decide ((1000000 : Int) < ((ix y26.2 v29) + (a2.To - a2.From))))) 103 (.bin .gtr false 102 (ki 1000000)) 99 false rfl (fun hg => (.cons hg (.cons rfl .nil))) ?_
    refine po 104 99 103 rfl rfl ?_
    refine jf (.d4 (.d (.k4 (.k4 (.i 104 (vb ((decide ((ix y26.2 v29) < a2.From)) || (decide ((1000000 : Int) < ((ix y26.2 v29) + (a2.To - a2.From)))))) .n))))) ?_
    refine tc h (fun c31 h => ?_) (fun c31 h => ?_)
    ·refine q5 ?_
     exact Vs.intro sy ⟨v30, rfl, h⟩
    refine q2 ?_
    refine sko (.k4 (.k4 (.i 19 (.ptr 4 0 0) .n))) [some (.row 7 [.agg [vi a2.Kind, vi a2.From, vi a2.To, vt a2.Grand, vt a2.Place, vt a2.Who, vi a2.Deposit]]), some (.mp (mpE vi (eM eArr2_Str vi) v30)), some (.row 7 [.agg [eS 1 vt a0.Places, eS 1 vt a0.Technicians, eS 4 eRoad a0.Roads, eS 3 eGrand a0.Grands, vi a0.Change, vi a0.Lasts, .map 1]]), some (.row 1 (List.map vi y26.2)), some (.row 7 [.agg [vi a2.Kind, vi a2.From, vi a2.To, vt a2.Grand, vt a2.Place, vt a2.Who, vi a2.Deposit]])] ?_
    refine sj ?_
    refine rk 3 (.k4 (.k4 (.k (.i 106 (vi (ix y26.2 v29)) (.i 107 (vi (ix y26.2 v29)) (.i 108 (vi (a2.To - a2.From)) .n)))))) ?_
    refine cK h fun c32 h => ?_
    refine jo 109 (.bin .add false 107 108) (r_add rfl rfl c32) ?_
    refine jko 4 (.d (.k4 (.k4 (.k .n)))) [some (.row 7 [.agg [vi a2.Kind, vi a2.From, vi a2.To, vt a2.Grand, vt a2.Place, vt a2.Who, vi a2.Deposit]]), some (.mp (mpE vi (eM eArr2_Str vi) v30)), some (.row 7 [.agg [eS 1 vt a0.Places, eS 1 vt a0.Technicians, eS 4 eRoad a0.Roads, eS 3 eGrand a0.Grands, vi a0.Change, vi a0.Lasts, .map 1]]), some (.row 1 (List.map vi y26.2)), some (.row 7 [.agg [vi a2.Kind, vi (ix y26.2 v29), vi ((ix y26.2 v29) + (a2.To - a2.From)), vt a2.Grand, vt a2.Place, vt a2.Who, vi a2.Deposit]])] ?_
    refine sj ?_
    refine rk 3 (.k4 (.k4 (.i 113 (.ptr 2 0 0) (.i 114 (eS 7 eItem a1) (.i 115 (.agg [vi a2.Kind, vi (ix y26.2 v29), vi ((ix y26.2 v29) + (a2.To - a2.From)), vt a2.Grand, vt a2.Place, vt a2.Who, vi a2.Deposit]) .n))))) ?_
    refine bK h fun y31 hy31 h => ?_
    refine jco (.tup [eS 7 eItem y31.2.2, vi y31.1]) 116 [113, 114, 115] (diary_plan_add_2_ok n a0.Places a0.Technicians a0.Roads a0.Grands a0.Change a0.Lasts v30 a1 (Item.mk a2.Kind (ix y26.2 v29) ((ix y26.2 v29) + (a2.To - a2.From)) a2.Grand a2.Place a2.Who a2.Deposit) y31 hy31) [2, 1] rfl (.cons rfl (.same (mp_ren vi_frz (eM_frz eArr2_Str vi) _ _) .nil)) (.cons rfl (.same (mp_ren vi_frz (eM_frz eArr2_Str vi) _ _) .nil)) rfl ?_
    refine jk 5 (.d (.k4 (.k4 (.i 21 (vi y31.1) .n)))) ?_
    refine sk (.k4 (.k4 (.i 120 (vb (y31.1 == (0 : Int))) .n))) ?_
    refine tc h (fun c33 h => ?_) (fun c33 h => ?_)
    ·refine sk (.i 6 (vi (ix y26.2 v29)) (.i 7 (vi 0) .n)) ?_
     refine q3 ?_
     have h := si h
     subst h
     exact DoneS.ret (S' := ⟨[(6, vi (ix y26.2 v29)), (7, vi 0)], []⟩) (sc [] (by decide) (by kernel_rfl) ObRen.nil rfl rfl) rfl rfl
    refine q2 ?_
    exact Vs.intro (sc [0, 1, 2, 3] (by decide) (by kernel_rfl) (.cons rfl (obRen_mp vi_frz (eM_frz eArr2_Str vi) rfl (.cons rfl (obRen_row vi_frz rfl .nil)))) rfl rfl) ⟨y31.2.1, rfl, h⟩
   refine q5 ?_
   exact Vs.intro (sc [] (by decide) (by kernel_rfl) ObRen.nil rfl rfl) ⟨(), rfl, h⟩
  intro k7 h
  refine sj ?_
  refine rk 1 (.k4 (.k (.i 45 (eS 7 eItem a1) .n))) ?_
  refine jo 46 (.len 0 45) (ok_len_m rfl) ?_
  refine jk 1 (.d (.k4 (.k2 (.i 46 (vi (a1.length : Int)) (.i 47 (vi 0) .n))))) ?_
  refine q4 ?_
  refine TriE.sees (S' := ⟨[(1, eS 7 eItem a1), (3, .ptr 0 0 0), (5, .ptr 1 0 0), (8, .ptr 3 0 0), (11, .own 4 0 ([a2.From] : List Int).length), (45, eS 7 eItem a1), (46, vi (a1.length : Int)), (47, vi 0)], [some (.row 6 [.agg [eS 1 vt a0.Places, eS 1 vt a0.Technicians, eS 4 eRoad a0.Roads, eS 3 eGrand a0.Grands, vi a0.Change, vi a0.Lasts]]), some (.row 7 [.agg [vi a2.Kind, vi a2.From, vi a2.To, vt a2.Grand, vt a2.Place, vt a2.Who, vi a2.Deposit]]), some (.mp (mpE vi (eM eArr2_Str vi) v12)), some (.row 7 [.agg [eS 1 vt a0.Places, eS 1 vt a0.Technicians, eS 4 eRoad a0.Roads, eS 3 eGrand a0.Grands, vi a0.Change, vi a0.Lasts, .map 2]]), some (.row 1 (List.map vi ([a2.From] : List Int)))]⟩) sy ?_
  refine TriE.loopN h (fun (t : Nat × (List Int) × (List (Int × List (Arr2_Str × Int)))) => match t with | (v17, v18, v19) => St.mk [(1, eS 7 eItem a1), (3, .ptr 0 0 0), (5, .ptr 1 0 0), (8, .ptr 3 0 0), (11, .own 4 0 v18.length), (45, eS 7 eItem a1), (46, vi (a1.length : Int)), (47, vi v17)] [some (.row 6 [.agg [eS 1 vt a0.Places, eS 1 vt a0.Technicians, eS 4 eRoad a0.Roads, eS 3 eGrand a0.Grands, vi a0.Change, vi a0.Lasts]]), some (.row 7 [.agg [vi a2.Kind, vi a2.From, vi a2.To, vt a2.Grand, vt a2.Place, vt a2.Who, vi a2.Deposit]]), some (.mp (mpE vi (eM eArr2_Str vi) v19)), some (.row 7 [.agg [eS 1 vt a0.Places, eS 1 vt a0.Technicians, eS 4 eRoad a0.Roads, eS 3 eGrand a0.Grands, vi a0.Change, vi a0.Lasts, .map 2]]), some (.row 1 (List.map vi v18))]) rfl ?_
  clear h
  rintro back ⟨v17, v18, v19⟩ h
  dsimp only [diary_FreeFrom_L3] at h
  refine sj ?_
  refine jo 48 (.bin .lss false 47 46) (n_lss (i := v17) (j := a1.length) rfl rfl) ?_
  refine jf (.d (.k4 (.k4 (.i 48 (vb (decide (v17 < a1.length))) .n)))) ?_
  refine q1 ?_
  refine tc h (fun c18 h => ?_) (fun c18 h => ?_)
  ·refine q2 ?_
   refine TriE.seqK h (fun (t : (List Int) × (List (Int × List (Arr2_Str × Int)))) => match t with | (v21, v22) => St.mk [(1, eS 7 eItem a1), (3, .ptr 0 0 0), (5, .ptr 1 0 0), (8, .ptr 3 0 0), (45, eS 7 eItem a1), (46, vi (a1.length : Int)), (47, vi v17), (11, .own 4 0 v21.length)] [some (.row 6 [.agg [eS 1 vt a0.Places, eS 1 vt a0.Technicians, eS 4 eRoad a0.Roads, eS 3 eGrand a0.Grands, vi a0.Change, vi a0.Lasts]]), some (.row 7 [.agg [vi a2.Kind, vi a2.From, vi a2.To, vt a2.Grand, vt a2.Place, vt a2.Who, vi a2.Deposit]]), some (.mp (mpE vi (eM eArr2_Str vi) v22)), some (.row 7 [.agg [eS 1 vt a0.Places, eS 1 vt a0.Technicians, eS 4 eRoad a0.Roads, eS 3 eGrand a0.Grands, vi a0.Change, vi a0.Lasts, .map 2]]), some (.row 1 (List.map vi v21))]) ?_ ?_
   ·rintro ⟨v21, v22⟩ h
    refine q6 ?_
    refine cK h fun c24 h => ?_
    refine jo 80 (.bin .add false 47 (ki 1)) (r_addn (i := v17) (j := 1) rfl rfl c24) ?_
    refine jk 1 (.d (.k4 (.k2 (.d (.k (.i 47 (vi ((v17 + 1 : Nat) : Int)) .n)))))) ?_
    exact Vs.intro sy ⟨(v17 + 1, v21, v22), rfl, h⟩
   intro k6 h
   refine q4 ?_
   refine sj ?_
   refine jo 49 (.iaddr 7 45 47) (ok_iaddr_m (j := v17) rfl rfl rfl c18) ?_
   refine jo 50 (.load true 7 49) (ok_load_fm (v := .agg [vi ((ix a1 v17).Kind), vi ((ix a1 v17).From), vi ((ix a1 v17).To), vt ((ix a1 v17).Grand), vt ((ix a1 v17).Place), vt ((ix a1 v17).Who), vi ((ix a1 v17).Deposit)]) rfl c18 rfl) ?_
   refine jko 2 (.d2 (.k4 (.k4 (.i 13 (.ptr 5 0 0) .n)))) [some (.row 6 [.agg [eS 1 vt a0.Places, eS 1 vt a0.Technicians, eS 4 eRoad a0.Roads, eS 3 eGrand a0.Grands, vi a0.Change, vi a0.Lasts]]), some (.row 7 [.agg [vi a2.Kind, vi a2.From, vi a2.To, vt a2.Grand, vt a2.Place, vt a2.Who, vi a2.Deposit]]), some (.mp (mpE vi (eM eArr2_Str vi) v19)), some (.row 7 [.agg [eS 1 vt a0.Places, eS 1 vt a0.Technicians, eS 4 eRoad a0.Roads, eS 3 eGrand a0.Grands, vi a0.Change, vi a0.Lasts, .map 2]]), some (.row 1 (List.map vi v18)), some (.row 7 [.agg [vi ((ix a1 v17).Kind), vi ((ix a1 v17).From), vi ((ix a1 v17).To), vt ((ix a1 v17).Grand), vt ((ix a1 v17).Place), vt ((ix a1 v17).Who), vi ((ix a1 v17).Deposit)]])] ?_
   refine sj ?_
   refine rk 9 (.k4 (.d (.k4 (.i 51 (.own 4 0 v18.length) (.i 53 (vi ((ix a1 v17).From)) (.i 55 (vi ((ix a1 v17).To)) (.i 57 (vi ((ix a1 v17).To)) (.i 59 (vi a0.Change) .n)))))))) ?_
   refine cK h fun c19 h => ?_
   refine jo 60 (.bin .add false 57 59) (r_add rfl rfl c19) ?_
   refine rko 1 (.d (.k4 (.k4 (.k (.i 61 (.own 6 0 3) .n))))) [some (.row 6 [.agg [eS 1 vt a0.Places, eS 1 vt a0.Technicians, eS 4 eRoad a0.Roads, eS 3 eGrand a0.Grands, vi a0.Change, vi a0.Lasts]]), some (.row 7 [.agg [vi a2.Kind, vi a2.From, vi a2.To, vt a2.Grand, vt a2.Place, vt a2.Who, vi a2.Deposit]]), some (.mp (mpE vi (eM eArr2_Str vi) v19)), some (.row 7 [.agg [eS 1 vt a0.Places, eS 1 vt a0.Technicians, eS 4 eRoad a0.Roads, eS 3 eGrand a0.Grands, vi a0.Change, vi a0.Lasts, .map 2]]), some (.row 1 (List.map vi v18)), some (.row 7 [.agg [vi ((ix a1 v17).Kind), vi ((ix a1 v17).From), vi ((ix a1 v17).To), vt ((ix a1 v17).Grand), vt ((ix a1 v17).Place), vt ((ix a1 v17).Who), vi ((ix a1 v17).Deposit)]]), some (.row 1 [vi ((ix a1 v17).From), vi ((ix a1 v17).To), vi (((ix a1 v17).To) + a0.Change)])] ?_
   refine cK h fun c20 h => ?_
   refine jx 62 (.app 1 8 51 61) _ (ok_app_own (l := v18) (l2 := ([(ix a1 v17).From, (ix a1 v17).To, ((ix a1 v17).To) + a0.Change] : List Int)) (e := vi) (u := .own 6 0 3) rfl rfl rfl rfl rfl c20) rfl rfl ?_
   refine jk 1 (.d (.k4 (.k4 (.i 11 (.own 7 0 ((v18 ++ ([(ix a1 v17).From, (ix a1 v17).To, ((ix a1 v17).To) + a0.Change] : List Int)).length)) .n)))) ?_
   refine sj ?_
   refine rk 5 (.k4 (.k4 (.k (.i 64 (.ptr 3 0 0) (.i 66 (vt ((ix a1 v17).Place)) (.i 68 (vt a2.Place) .n)))))) ?_
   refine bK h fun y20 hy20 h => ?_
   refine jco (.tup [vi y20.1, vb y20.2.1]) 69 [64, 66, 68, (ki 1)] (diary_plan_distance_ok n a0.Places a0.Technicians a0.Roads a0.Grands a0.Change a0.Lasts v19 ((ix a1 v17).Place) a2.Place 1 y20 hy20) [3, 2] rfl (.cons rfl (.same (mp_ren vi_frz (eM_frz eArr2_Str vi) _ _) .nil)) (.cons rfl (.same (mp_ren vi_frz (eM_frz eArr2_Str vi) _ _) .nil)) rfl ?_
   refine jk 5 (.d (.k4 (.k4 (.k (.i 14 (vi y20.1) (.i 15 (vb y20.2.1) .n)))))) ?_
   refine sk (.k4 (.k4 (.k2 (.i 72 (vb y20.2.1) .n)))) ?_
   refine tc h (fun c21 h => ?_) (fun c21 h => ?_)
   ·refine q6 ?_
    refine rk 4 (.k4 (.k3 (.i 73 (.own 7 0 ((v18 ++ ([(ix a1 v17).From, (ix a1 v17).To, ((ix a1 v17).To) + a0.Change] : List Int)).length)) (.i 75 (vi ((ix a1 v17).To)) (.i 76 (vi y20.1) .n))))) ?_
    refine cK h fun c22 h => ?_
    refine jo 77 (.bin .add false 75 76) (r_add rfl rfl c22) ?_
    refine rko 1 (.d (.k4 (.k4 (.i 78 (.own 8 0 1) .n)))) [some (.row 6 [.agg [eS 1 vt a0.Places, eS 1 vt a0.Technicians, eS 4 eRoad a0.Roads, eS 3 eGrand a0.Grands, vi a0.Change, vi a0.Lasts]]), some (.row 7 [.agg [vi a2.Kind, vi a2.From, vi a2.To, vt a2.Grand, vt a2.Place, vt a2.Who, vi a2.Deposit]]), some (.mp (mpE vi (eM eArr2_Str vi) y20.2.2)), some (.row 7 [.agg [eS 1 vt a0.Places, eS 1 vt a0.Technicians, eS 4 eRoad a0.Roads, eS 3 eGrand a0.Grands, vi a0.Change, vi a0.Lasts, .map 2]]), none, some (.row 7 [.agg [vi ((ix a1 v17).Kind), vi ((ix a1 v17).From), vi ((ix a1 v17).To), vt ((ix a1 v17).Grand), vt ((ix a1 v17).Place), vt ((ix a1 v17).Who), vi ((ix a1 v17).Deposit)]]), some (.row 1 [vi ((ix a1 v17).From), vi ((ix a1 v17).To), vi (((ix a1 v17).To) + a0.Change)]), some (.row 1 (List.map vi (v18 ++ ([(ix a1 v17).From, (ix a1 v17).To, ((ix a1 v17).To) + a0.Change] : List Int)))), some (.row 1 [vi (((ix a1 v17).To) + y20.1)])] ?_
    refine cK h fun c23 h => ?_
    refine jx 79 (.app 1 8 73 78) _ (ok_app_own (l := (v18 ++ ([(ix a1 v17).From, (ix a1 v17).To, ((ix a1 v17).To) + a0.Change] : List Int))) (l2 := ([((ix a1 v17).To) + y20.1] : List Int)) (e := vi) (u := .own 8 0 1) rfl rfl rfl rfl rfl c23) rfl rfl ?_
    refine jk 1 (.d (.k4 (.k3 (.i 11 (.own 9 0 (((v18 ++ ([(ix a1 v17).From, (ix a1 v17).To, ((ix a1 v17).To) + a0.Change] : List Int)) ++ ([((ix a1 v17).To) + y20.1] : List Int)).length)) .n)))) ?_
    exact Vs.intro (sc [0, 1, 2, 3, 9] (by decide) (by kernel_rfl) (.cons rfl (.cons rfl (obRen_mp vi_frz (eM_frz eArr2_Str vi) rfl (.cons rfl (obRen_row vi_frz rfl .nil))))) rfl rfl) ⟨(((v18 ++ ([(ix a1 v17).From, (ix a1 v17).To, ((ix a1 v17).To) + a0.Change] : List Int)) ++ ([((ix a1 v17).To) + y20.1] : List Int)), y20.2.2), rfl, h⟩
   refine q2 ?_
   exact Vs.intro (sc [0, 1, 2, 3, 7] (by decide) (by kernel_rfl) (.cons rfl (.cons rfl (obRen_mp vi_frz (eM_frz eArr2_Str vi) rfl (.cons rfl (obRen_row vi_frz rfl .nil))))) rfl rfl) ⟨((v18 ++ ([(ix a1 v17).From, (ix a1 v17).To, ((ix a1 v17).To) + a0.Change] : List Int)), y20.2.2), rfl, h⟩
  refine q5 ?_
  exact Vs.intro (sc [1, 2, 3, 4] (by decide) (by kernel_rfl) (.cons rfl (obRen_mp vi_frz (eM_frz eArr2_Str vi) rfl (.cons rfl (obRen_row vi_frz rfl .nil)))) rfl rfl) ⟨(v18, v19), rfl, h⟩
 intro k1 k5 h
 refine q6 ?_
 refine rk 2 (.k3 (.i 23 (.agg [eS 1 vt a0.Places, eS 1 vt a0.Technicians, eS 4 eRoad a0.Roads, eS 3 eGrand a0.Grands, vi a0.Change, vi a0.Lasts]) (.i 24 (eS 7 eItem a1) .n))) ?_
 refine bK h fun y1 hy1 h => ?_
 rcases y1 with y1 | y1
 ·dsimp only at h
  refine jc 25 [23, 24] (diary_read_ok n a0 a1 (Sum.inl y1) hy1) ?_
  refine jk 5 (.d (.k3 (.i 8 (.p (.pointer none)) (.i 9 (vi y1) .n)))) ?_
  exact Vs.intro Sees.refl (.inl ⟨y1, rfl, h⟩)
 dsimp only at h
 refine jco (.tup [.ptr 3 0 0, vi y1.1]) 25 [23, 24] (diary_read_ok n a0 a1 (Sum.inr y1) hy1) [] rfl ObsRen.nil (.same (mp_ren vi_frz (eM_frz eArr2_Str vi) _ _) (.cons rfl .nil)) rfl ?_
 refine jk 5 (.d (.k3 (.i 8 (.ptr 3 0 0) (.i 9 (vi y1.1) .n)))) ?_
 exact Vs.intro Sees.refl (.inr ⟨(y1.1, y1.2), rfl, h⟩)
theorem diary_CheckWindows_ok (n : Nat) (a0 : List Window) (r : Int) (h : diary_CheckWindows n a0 = some r) : FnL Try.prog 39 [eS 2 eWindow a0] [] (vi r) [] := by
 dsimp only [diary_CheckWindows] at h
 refine fo [2] Try.call39 Try.func39 rfl ?_
 refine sk .a ?_
 refine q1 ?_
 refine sj ?_
 refine rk 1 (.k (.i 5 (eS 2 eWindow a0) .n)) ?_
 refine jo 6 (.len 0 5) (ok_len_m rfl) ?_
 refine jo 7 (.bin .gtr false 6 (ki 60)) (n_gtr (i := a0.length) (j := 60) rfl rfl) ?_
 refine jf (.d2 (.k (.i 7 (vb (decide (60 < a0.length))) .n))) ?_
 refine tc h (fun c1 h => ?_) (fun c1 h => ?_)
 ·refine sk (.i 2 (vi 8) .n) ?_
  refine q3 ?_
  have h := si h
  subst h
  exact DoneS.ret Sees.refl rfl rfl
 refine q2 ?_
 refine TriE.seqK h (fun (_ : Unit) => St.mk [] []) ?_ ?_
 ·rintro ⟨⟩ h
  refine sk (.i 2 (vi 0) .n) ?_
  refine q3 ?_
  have h := si h
  subst h
  exact DoneS.ret Sees.refl rfl rfl
 intro k1 h
 refine sj ?_
 refine rk 1 (.i 8 (eS 2 eWindow a0) .n) ?_
 refine jo 9 (.len 0 8) (ok_len_m rfl) ?_
 refine jk 1 (.d (.k (.i 9 (vi (a0.length : Int)) (.i 10 (vi 0) .n)))) ?_
 refine q4 ?_
 refine ts (.k2 (.i 10 (vi 0) .n)) ?_
 refine TriE.loopN h (fun (v3 : Nat) => St.mk [(8, eS 2 eWindow a0), (9, vi (a0.length : Int)), (10, vi v3)] []) rfl ?_
 clear h
 rintro back v3 h
 dsimp only [diary_CheckWindows_L1] at h
 refine sj ?_
 refine jo 11 (.bin .lss false 10 9) (n_lss (i := v3) (j := a0.length) rfl rfl) ?_
 refine jf (.d (.k3 (.i 11 (vb (decide (v3 < a0.length))) .n))) ?_
 refine q1 ?_
 refine tc h (fun c2 h => ?_) (fun c2 h => ?_)
 ·refine q2 ?_
  refine q7 ?_
  refine sj ?_
  refine jo 12 (.iaddr 2 8 10) (ok_iaddr_m (j := v3) rfl rfl rfl c2) ?_
  refine jo 13 (.load true 2 12) (ok_load_fm (v := .agg [vi ((ix a0 v3).From), vi ((ix a0 v3).To)]) rfl c2 rfl) ?_
  refine jko 2 (.d2 (.k3 (.i 4 (.ptr 0 0 0) .n))) [some (.row 2 [.agg [vi ((ix a0 v3).From), vi ((ix a0 v3).To)]])] ?_
  refine q4 ?_
  refine sj ?_
  refine rk 2 (.k4 (.i 16 (vi ((ix a0 v3).From)) .n)) ?_
  refine bK h fun y4 hy4 h => ?_
  refine jc 17 [16, (ki 0), (ki 1000)] (diary_within_ok n ((ix a0 v3).From) 0 1000 y4 hy4) ?_
  refine rk 2 (.d (.k4 (.i 19 (vb (!((decide (0 ≤ ((ix a0 v3).From))) && (decide (((ix a0 v3).From) ≤ 1000))))) .n))) ?_
  refine gj (.ptr 0 0 1) 20 (.faddr 1 4) 19 false rfl ?_
  refine gk (vi ((ix a0 v3).To)) 21 (.load false 1 20) 19 false rfl (fun hg => (.cons hg .nil)) ?_
  refine bK h fun y5 hy5 h => ?_
  refine gc 22 [21, (ki 0), (ki 1000)] 19 false rfl (fun hg => diary_within_ok n ((ix a0 v3).To) 0 1000 y5 (gcall_some hy5 hg)) (fun hg => (.cons rfl (.cons hg (.cons rfl (.cons rfl .nil))))) (fun hg => by kernel_rfl) ?_
  refine gk (vb (!((decide (0 ≤ ((ix a0 v3).To))) && (decide (((ix a0 v3).To) ≤ 1000))))) 23 (.un .not 22) 19 false rfl (fun hg => (.cons hg .nil)) ?_
  refine po 24 19 23 rfl rfl ?_
  refine jk 1 (.d4 (.d (.k4 (.i 14 (vb ((!((decide (0 ≤ ((ix a0 v3).From))) && (decide (((ix a0 v3).From) ≤ 1000)))) || (!((decide (0 ≤ ((ix a0 v3).To))) && (decide (((ix a0 v3).To) ≤ 1000)))))) .n)))) ?_
  refine tc h (fun c3 h => ?_) (fun c3 h => ?_)
  ·refine sk (.i 2 (vi 2) .n) ?_
   refine q3 ?_
   have h := si h
   subst h
   exact DoneS.ret (S' := ⟨[(2, vi 2)], []⟩) (sc [] (by decide) (by kernel_rfl) ObRen.nil rfl rfl) rfl rfl
  refine sk (.k3 (.i 25 (vb (decide (((ix a0 v3).To) ≤ ((ix a0 v3).From)))) .n)) ?_
  refine tc h (fun c4 h => ?_) (fun c4 h => ?_)
  ·refine sk (.i 2 (vi 9) .n) ?_
   refine q3 ?_
   have h := si h
   subst h
   exact DoneS.ret (S' := ⟨[(2, vi 9)], []⟩) (sc [] (by decide) (by kernel_rfl) ObRen.nil rfl rfl) rfl rfl
  refine q2 ?_
  refine q6 ?_
  refine cK h fun c5 h => ?_
  refine jo 31 (.bin .add false 10 (ki 1)) (r_addn (i := v3) (j := 1) rfl rfl c5) ?_
  refine jk 1 (.d (.k2 (.i 10 (vi ((v3 + 1 : Nat) : Int)) .n))) ?_
  exact Vs.intro (sc [] (by decide) (by kernel_rfl) ObRen.nil rfl rfl) ⟨(v3 + 1), rfl, h⟩
 refine q5 ?_
 exact Vs.intro sy ⟨(), rfl, h⟩
theorem math_bits_Mul64_ok (n : Nat) (a0 : Int) (a1 : Int) (r : Unit) (h : math_bits_Mul64 n a0 a1 = some r) : FnL Try.prog 147 [vk .u64 a0, vk .u64 a1] [] (.tup [vk .u64 (IntKind.u64.wrap ((IntKind.u64.wrap ((IntKind.u64.wrap ((Int.fdiv a0 (2 ^ (min 32 64))) * (Int.fdiv a1 (2 ^ (min 32 64))))) + (Int.fdiv (IntKind.u64.wrap ((IntKind.u64.wrap ((Int.fdiv a0 (2 ^ (min 32 64))) * (iAnd .u64 a1 4294967295))) + (Int.fdiv (IntKind.u64.wrap ((iAnd .u64 a0 4294967295) * (iAnd .u64 a1 4294967295))) (2 ^ (min 32 64))))) (2 ^ (min 32 64))))) + (Int.fdiv (IntKind.u64.wrap ((iAnd .u64 (IntKind.u64.wrap ((IntKind.u64.wrap ((Int.fdiv a0 (2 ^ (min 32 64))) * (iAnd .u64 a1 4294967295))) + (Int.fdiv (IntKind.u64.wrap ((iAnd .u64 a0 4294967295) * (iAnd .u64 a1 4294967295))) (2 ^ (min 32 64))))) 4294967295) + (IntKind.u64.wrap ((iAnd .u64 a0 4294967295) * (Int.fdiv a1 (2 ^ (min 32 64))))))) (2 ^ (min 32 64))))), vk .u64 (IntKind.u64.wrap (a0 * a1))]) [] := by
 dsimp only [math_bits_Mul64] at h
 refine fo [4, 5] Try.call147 Try.func147 rfl ?_
 refine sk .a ?_
 refine sk (.k2 (.i 6 (vk .u64 (iAnd .u64 a0 4294967295)) .n)) ?_
 refine sk (.k3 (.i 7 (vk .u64 (Int.fdiv a0 (2 ^ (min 32 64)))) .n)) ?_
 refine sk (.k4 (.i 8 (vk .u64 (iAnd .u64 a1 4294967295)) .n)) ?_
 refine sk (.k4 (.k (.i 9 (vk .u64 (Int.fdiv a1 (2 ^ (min 32 64)))) .n))) ?_
 refine sk (.k4 (.k2 (.i 10 (vk .u64 (IntKind.u64.wrap ((iAnd .u64 a0 4294967295) * (iAnd .u64 a1 4294967295)))) .n))) ?_
 refine sk (.k4 (.d (.k (.i 11 (vk .u64 (IntKind.u64.wrap ((IntKind.u64.wrap ((Int.fdiv a0 (2 ^ (min 32 64))) * (iAnd .u64 a1 4294967295))) + (Int.fdiv (IntKind.u64.wrap ((iAnd .u64 a0 4294967295) * (iAnd .u64 a1 4294967295))) (2 ^ (min 32 64)))))) .n)))) ?_
 refine sk (.k4 (.k2 (.i 12 (vk .u64 (iAnd .u64 (IntKind.u64.wrap ((IntKind.u64.wrap ((Int.fdiv a0 (2 ^ (min 32 64))) * (iAnd .u64 a1 4294967295))) + (Int.fdiv (IntKind.u64.wrap ((iAnd .u64 a0 4294967295) * (iAnd .u64 a1 4294967295))) (2 ^ (min 32 64))))) 4294967295)) .n))) ?_
 refine sk (.k4 (.k (.d (.k (.i 13 (vk .u64 (Int.fdiv (IntKind.u64.wrap ((IntKind.u64.wrap ((Int.fdiv a0 (2 ^ (min 32 64))) * (iAnd .u64 a1 4294967295))) + (Int.fdiv (IntKind.u64.wrap ((iAnd .u64 a0 4294967295) * (iAnd .u64 a1 4294967295))) (2 ^ (min 32 64))))) (2 ^ (min 32 64)))) .n))))) ?_
 refine sk (.k2 (.d (.k2 (.d (.k (.i 12 (vk .u64 (IntKind.u64.wrap ((iAnd .u64 (IntKind.u64.wrap ((IntKind.u64.wrap ((Int.fdiv a0 (2 ^ (min 32 64))) * (iAnd .u64 a1 4294967295))) + (Int.fdiv (IntKind.u64.wrap ((iAnd .u64 a0 4294967295) * (iAnd .u64 a1 4294967295))) (2 ^ (min 32 64))))) 4294967295) + (IntKind.u64.wrap ((iAnd .u64 a0 4294967295) * (Int.fdiv a1 (2 ^ (min 32 64)))))))) .n)))))) ?_
 refine sk (.k2 (.i 4 (vk .u64 (IntKind.u64.wrap ((IntKind.u64.wrap ((IntKind.u64.wrap ((Int.fdiv a0 (2 ^ (min 32 64))) * (Int.fdiv a1 (2 ^ (min 32 64))))) + (Int.fdiv (IntKind.u64.wrap ((IntKind.u64.wrap ((Int.fdiv a0 (2 ^ (min 32 64))) * (iAnd .u64 a1 4294967295))) + (Int.fdiv (IntKind.u64.wrap ((iAnd .u64 a0 4294967295) * (iAnd .u64 a1 4294967295))) (2 ^ (min 32 64))))) (2 ^ (min 32 64))))) + (Int.fdiv (IntKind.u64.wrap ((iAnd .u64 (IntKind.u64.wrap ((IntKind.u64.wrap ((Int.fdiv a0 (2 ^ (min 32 64))) * (iAnd .u64 a1 4294967295))) + (Int.fdiv (IntKind.u64.wrap ((iAnd .u64 a0 4294967295) * (iAnd .u64 a1 4294967295))) (2 ^ (min 32 64))))) 4294967295) + (IntKind.u64.wrap ((iAnd .u64 a0 4294967295) * (Int.fdiv a1 (2 ^ (min 32 64))))))) (2 ^ (min 32 64)))))) .n)) ?_
 refine sk (.d2 (.k (.i 5 (vk .u64 (IntKind.u64.wrap (a0 * a1))) .n))) ?_
 refine q3 ?_
 have h := si h
 subst h
 exact DoneS.ret Sees.refl rfl rfl
theorem math_bits_Mul_ok (n : Nat) (a0 : Int) (a1 : Int) (r : Unit) (h : math_bits_Mul n a0 a1 = some r) : FnL Try.prog 137 [vk .u64 a0, vk .u64 a1] [] (.tup [vk .u64 (IntKind.u64.wrap ((IntKind.u64.wrap ((IntKind.u64.wrap ((Int.fdiv a0 (2 ^ (min 32 64))) * (Int.fdiv a1 (2 ^ (min 32 64))))) + (Int.fdiv (IntKind.u64.wrap ((IntKind.u64.wrap ((Int.fdiv a0 (2 ^ (min 32 64))) * (iAnd .u64 a1 4294967295))) + (Int.fdiv (IntKind.u64.wrap ((iAnd .u64 a0 4294967295) * (iAnd .u64 a1 4294967295))) (2 ^ (min 32 64))))) (2 ^ (min 32 64))))) + (Int.fdiv (IntKind.u64.wrap ((iAnd .u64 (IntKind.u64.wrap ((IntKind.u64.wrap ((Int.fdiv a0 (2 ^ (min 32 64))) * (iAnd .u64 a1 4294967295))) + (Int.fdiv (IntKind.u64.wrap ((iAnd .u64 a0 4294967295) * (iAnd .u64 a1 4294967295))) (2 ^ (min 32 64))))) 4294967295) + (IntKind.u64.wrap ((iAnd .u64 a0 4294967295) * (Int.fdiv a1 (2 ^ (min 32 64))))))) (2 ^ (min 32 64))))), vk .u64 (IntKind.u64.wrap (a0 * a1))]) [] := by
 dsimp only [math_bits_Mul] at h
 refine fo [4, 5] Try.call137 Try.func137 rfl ?_
 refine sk .a ?_
 refine q1 ?_
 refine TriE.cond (b := false) rfl (fun c1 => ?_) (fun c1 => ?_)
 ·cases c1
 refine q2 ?_
 refine sj ?_
 refine rk 2 (.i 23 (vk .u64 a0) (.i 24 (vk .u64 a1) .n)) ?_
 refine bK h fun y1 hy1 h => ?_
 refine jc 25 [23, 24] (math_bits_Mul64_ok n a0 a1 y1 hy1) ?_
 refine jk 5 (.i 8 (vk .u64 (IntKind.u64.wrap ((IntKind.u64.wrap ((IntKind.u64.wrap ((Int.fdiv a0 (2 ^ (min 32 64))) * (Int.fdiv a1 (2 ^ (min 32 64))))) + (Int.fdiv (IntKind.u64.wrap ((IntKind.u64.wrap ((Int.fdiv a0 (2 ^ (min 32 64))) * (iAnd .u64 a1 4294967295))) + (Int.fdiv (IntKind.u64.wrap ((iAnd .u64 a0 4294967295) * (iAnd .u64 a1 4294967295))) (2 ^ (min 32 64))))) (2 ^ (min 32 64))))) + (Int.fdiv (IntKind.u64.wrap ((iAnd .u64 (IntKind.u64.wrap ((IntKind.u64.wrap ((Int.fdiv a0 (2 ^ (min 32 64))) * (iAnd .u64 a1 4294967295))) + (Int.fdiv (IntKind.u64.wrap ((iAnd .u64 a0 4294967295) * (iAnd .u64 a1 4294967295))) (2 ^ (min 32 64))))) 4294967295) + (IntKind.u64.wrap ((iAnd .u64 a0 4294967295) * (Int.fdiv a1 (2 ^ (min 32 64))))))) (2 ^ (min 32 64)))))) (.i 9 (vk .u64 (IntKind.u64.wrap (a0 * a1))) .n)) ?_
 refine sk (.i 4 (vk .u64 (IntKind.u64.wrap ((IntKind.u64.wrap ((IntKind.u64.wrap ((Int.fdiv a0 (2 ^ (min 32 64))) * (Int.fdiv a1 (2 ^ (min 32 64))))) + (Int.fdiv (IntKind.u64.wrap ((IntKind.u64.wrap ((Int.fdiv a0 (2 ^ (min 32 64))) * (iAnd .u64 a1 4294967295))) + (Int.fdiv (IntKind.u64.wrap ((iAnd .u64 a0 4294967295) * (iAnd .u64 a1 4294967295))) (2 ^ (min 32 64))))) (2 ^ (min 32 64))))) + (Int.fdiv (IntKind.u64.wrap ((iAnd .u64 (IntKind.u64.wrap ((IntKind.u64.wrap ((Int.fdiv a0 (2 ^ (min 32 64))) * (iAnd .u64 a1 4294967295))) + (Int.fdiv (IntKind.u64.wrap ((iAnd .u64 a0 4294967295) * (iAnd .u64 a1 4294967295))) (2 ^ (min 32 64))))) 4294967295) + (IntKind.u64.wrap ((iAnd .u64 a0 4294967295) * (Int.fdiv a1 (2 ^ (min 32 64))))))) (2 ^ (min 32 64)))))) (.i 5 (vk .u64 (IntKind.u64.wrap (a0 * a1))) .n)) ?_
 refine q3 ?_
 have h := si h
 subst h
 exact DoneS.ret Sees.refl rfl rfl
set_option maxHeartbeats 1000000 in
theorem slices_Repeat_int_ok (n : Nat) (a0 : List Int) (a1 : Int) (r : (List Int)) (h : slices_Repeat_int n a0 a1 = some r) : FnL Try.prog 116 [.own 0 0 a0.length, vi a1] [some (.row 1 (List.map vi a0))] (.own 1 0 ((List.replicate ((IntKind.u64.wrap ((IntKind.u64.wrap (a0.length : Int)) * (IntKind.u64.wrap a1))).toNat) (0 : Int)).length)) [some (.row 1 (List.map vi a0)), some (.row 1 (List.map vi r))] := by
 dsimp only [slices_Repeat_int] at h
 refine fob [4] Try.call116 Try.func116 rfl (.cons rfl .nil) ?_
 refine sk .a ?_
 refine q1 ?_
 refine sk (.k2 (.i 10 (vb (decide (a1 < (0 : Int)))) .n)) ?_
 refine tc h (fun c1 h => ?_) (fun c1 h => ?_)
 ·refine q6 ?_
  cases h
 refine q2 ?_
 refine sj ?_
 refine rk 5 (.k (.i 15 (vk .u64 (IntKind.u64.wrap (a0.length : Int))) (.i 17 (vk .u64 (IntKind.u64.wrap a1)) .n))) ?_
 refine bK h fun y1 hy1 h => ?_
 refine jc 18 [15, 17] (math_bits_Mul_ok n (IntKind.u64.wrap (a0.length : Int)) (IntKind.u64.wrap a1) y1 hy1) ?_
 refine jk 5 (.d (.k (.i 5 (vk .u64 (IntKind.u64.wrap ((IntKind.u64.wrap ((IntKind.u64.wrap ((Int.fdiv (IntKind.u64.wrap (a0.length : Int)) (2 ^ (min 32 64))) * (Int.fdiv (IntKind.u64.wrap a1) (2 ^ (min 32 64))))) + (Int.fdiv (IntKind.u64.wrap ((IntKind.u64.wrap ((Int.fdiv (IntKind.u64.wrap (a0.length : Int)) (2 ^ (min 32 64))) * (iAnd .u64 (IntKind.u64.wrap a1) 4294967295))) + (Int.fdiv (IntKind.u64.wrap ((iAnd .u64 (IntKind.u64.wrap (a0.length : Int)) 4294967295) * (iAnd .u64 (IntKind.u64.wrap a1) 4294967295))) (2 ^ (min 32 64))))) (2 ^ (min 32 64))))) + (Int.fdiv (IntKind.u64.wrap ((iAnd .u64 (IntKind.u64.wrap ((IntKind.u64.wrap ((Int.fdiv (IntKind.u64.wrap (a0.length : Int)) (2 ^ (min 32 64))) * (iAnd .u64 (IntKind.u64.wrap a1) 4294967295))) + (Int.fdiv (IntKind.u64.wrap ((iAnd .u64 (IntKind.u64.wrap (a0.length : Int)) 4294967295) * (iAnd .u64 (IntKind.u64.wrap a1) 4294967295))) (2 ^ (min 32 64))))) 4294967295) + (IntKind.u64.wrap ((iAnd .u64 (IntKind.u64.wrap (a0.length : Int)) 4294967295) * (Int.fdiv (IntKind.u64.wrap a1) (2 ^ (min 32 64))))))) (2 ^ (min 32 64)))))) (.i 6 (vk .u64 (IntKind.u64.wrap ((IntKind.u64.wrap (a0.length : Int)) * (IntKind.u64.wrap a1)))) .n)))) ?_
 refine q1 ?_
 refine sj ?_
 refine rk 3 (.k (.d (.k (.i 23 (vb (decide ((0 : Int) < (IntKind.u64.wrap ((IntKind.u64.wrap ((IntKind.u64.wrap ((Int.fdiv (IntKind.u64.wrap (a0.length : Int)) (2 ^ (min 32 64))) * (Int.fdiv (IntKind.u64.wrap a1) (2 ^ (min 32 64))))) + (Int.fdiv (IntKind.u64.wrap ((IntKind.u64.wrap ((Int.fdiv (IntKind.u64.wrap (a0.length : Int)) (2 ^ (min 32 64))) * (iAnd .u64 (IntKind.u64.wrap a1) 4294967295))) + (Int.fdiv (IntKind.u64.wrap ((iAnd .u64 (IntKind.u64.wrap (a0.length : Int)) 4294967295) * (iAnd .u64 (IntKind.u64.wrap a1) 4294967295))) (2 ^ (min 32 64))))) (2 ^ (min 32 64))))) + (Int.fdiv (IntKind.u64.wrap ((iAnd .u64 (IntKind.u64.wrap ((IntKind.u64.wrap ((Int.fdiv (IntKind.u64.wrap (a0.length : Int)) (2 ^ (min 32 64))) * (iAnd .u64 (IntKind.u64.wrap a1) 4294967295))) + (Int.fdiv (IntKind.u64.wrap ((iAnd .u64 (IntKind.u64.wrap (a0.length : Int)) 4294967295) * (iAnd .u64 (IntKind.u64.wrap a1) 4294967295))) (2 ^ (min 32 64))))) 4294967295) + (IntKind.u64.wrap ((iAnd .u64 (IntKind.u64.wrap (a0.length : Int)) 4294967295) * (Int.fdiv (IntKind.u64.wrap a1) (2 ^ (min 32 64))))))) (2 ^ (min 32 64)))))))) .n)))) ?_
 refine gj (vk .u64 (IntKind.u64.wrap ((IntKind.u64.wrap (a0.length : Int)) * (IntKind.u64.wrap a1)))) 24 (.mov 6) 23 false rfl ?_
 refine gk (vb (decide ((9223372036854775807 : Int) < (IntKind.u64.wrap ((IntKind.u64.wrap (a0.length : Int)) * (IntKind.u64.wrap a1)))))) 25 (.bin .gtr false 24 (.c (.p (.int .u64 9223372036854775807)))) 23 false rfl (fun hg => (.cons hg (.cons rfl .nil))) ?_
 refine po 26 23 25 rfl rfl ?_
 refine jf (.d3 (.k2 (.i 26 (vb ((decide ((0 : Int) < (IntKind.u64.wrap ((IntKind.u64.wrap ((IntKind.u64.wrap ((Int.fdiv (IntKind.u64.wrap (a0.length : Int)) (2 ^ (min 32 64))) * (Int.fdiv (IntKind.u64.wrap a1) (2 ^ (min 32 64))))) + (Int.fdiv (IntKind.u64.wrap ((IntKind.u64.wrap ((Int.fdiv (IntKind.u64.wrap (a0.length : Int)) (2 ^ (min 32 64))) * (iAnd .u64 (IntKind.u64.wrap a1) 4294967295))) + (Int.fdiv (IntKind.u64.wrap ((iAnd .u64 (IntKind.u64.wrap (a0.length : Int)) 4294967295) * (iAnd .u64 (IntKind.u64.wrap a1) 4294967295))) (2 ^ (min 32 64))))) (2 ^ (min 32 64))))) + (Int.fdiv (IntKind.u64.wrap ((iAnd .u64 (IntKind.u64.wrap ((IntKind.u64.wrap ((Int.fdiv (IntKind.u64.wrap (a0.length : Int)) (2 ^ (min 32 64))) * (iAnd .u64 (IntKind.u64.wrap a1) 4294967295))) + (Int.fdiv (IntKind.u64.wrap ((iAnd .u64 (IntKind.u64.wrap (a0.length : Int)) 4294967295) * (iAnd .u64 (IntKind.u64.wrap a1) 4294967295))) (2 ^ (min 32 64))))) 4294967295) + (IntKind.u64.wrap ((iAnd .u64 (IntKind.u64.wrap (a0.length : Int)) 4294967295) * (Int.fdiv (IntKind.u64.wrap a1) (2 ^ (min 32 64))))))) (2 ^ (min 32 64))))))) || (decide ((9223372036854775807 : Int) < (IntKind.u64.wrap ((IntKind.u64.wrap (a0.length : Int)) * (IntKind.u64.wrap a1))))))) .n))) ?_
 refine tc h (fun c2 h => ?_) (fun c2 h => ?_)
 ·refine q6 ?_
  cases h
 refine q2 ?_
 refine sj ?_
 refine rk 1 (.k (.i 28 (vk .u64 (IntKind.u64.wrap ((IntKind.u64.wrap (a0.length : Int)) * (IntKind.u64.wrap a1)))) .n)) ?_
 refine cK h fun c3 h => ?_
 refine jo 29 (.conv .i64 28) (ok_conv64 rfl c3) ?_
 refine cK h fun c4 h => ?_
 refine cK h fun c5 h => ?_
 refine jx 30 (.mkslice 1 8 (.p (.int .i64 0)) 29 29) _ (ok_mkslice_n (e := vi) (v0 := (0 : Int)) (j := (IntKind.u64.wrap ((IntKind.u64.wrap (a0.length : Int)) * (IntKind.u64.wrap a1))).toNat) rfl rfl (nn_to c4) (nn_to c4) rfl rfl c5) rfl rfl ?_
 refine jk 1 (.d2 (.k (.i 7 (.own 1 0 ((List.replicate ((IntKind.u64.wrap ((IntKind.u64.wrap (a0.length : Int)) * (IntKind.u64.wrap a1))).toNat) (0 : Int)).length)) .n))) ?_
 refine sj ?_
 refine rk 2 (.d (.k (.i 31 (.own 1 0 ((List.replicate ((IntKind.u64.wrap ((IntKind.u64.wrap (a0.length : Int)) * (IntKind.u64.wrap a1))).toNat) (0 : Int)).length)) (.i 32 (.own 0 0 a0.length) .n)))) ?_
 refine cK h fun c6 h => ?_
 refine cK h fun c7 h => ?_
 refine RegJ.cpyM (d := some 33) (k := 1) (e := vi) (l := (List.replicate ((IntKind.u64.wrap ((IntKind.u64.wrap (a0.length : Int)) * (IntKind.u64.wrap a1))).toNat) (0 : Int))) (l2 := (List.take a0.length (List.drop 0 a0))) (nn := 1) (off := 0) (len := (List.replicate ((IntKind.u64.wrap ((IntKind.u64.wrap (a0.length : Int)) * (IntKind.u64.wrap a1))).toNat) (0 : Int)).length) (rd := [0]) (x := .t 31) (y := .t 32) (by kernel_rfl) rfl rfl rfl rfl (els_ow2 (e := vi) (l := a0) rfl rfl c7) (fun _ h => nomatch h) c6 ?_
 refine jq 1 [(7, .own 1 0 ((List.replicate ((IntKind.u64.wrap ((IntKind.u64.wrap (a0.length : Int)) * (IntKind.u64.wrap a1))).toNat) (0 : Int)).length)), (8, vi ((Nat.min (List.take a0.length (List.drop 0 a0)).length ((List.replicate ((IntKind.u64.wrap ((IntKind.u64.wrap (a0.length : Int)) * (IntKind.u64.wrap a1))).toNat) (0 : Int)).length) : Nat) : Int))] [some (.row 1 (List.map vi a0)), some (.row 1 (List.map vi (cpyP (List.replicate ((IntKind.u64.wrap ((IntKind.u64.wrap (a0.length : Int)) * (IntKind.u64.wrap a1))).toNat) (0 : Int)) 0 (List.take (Nat.min (List.take a0.length (List.drop 0 a0)).length ((List.replicate ((IntKind.u64.wrap ((IntKind.u64.wrap (a0.length : Int)) * (IntKind.u64.wrap a1))).toNat) (0 : Int)).length)) (List.take a0.length (List.drop 0 a0))))))] ?_
 refine TriE.seqK h (fun (v4 : (List Int)) => St.mk [(7, .own 1 0 ((List.replicate ((IntKind.u64.wrap ((IntKind.u64.wrap (a0.length : Int)) * (IntKind.u64.wrap a1))).toNat) (0 : Int)).length))] [some (.row 1 (List.map vi a0)), some (.row 1 (List.map vi v4))]) ?_ ?_
 ·rintro v4 h
  refine sk (.i 4 (.own 1 0 ((List.replicate ((IntKind.u64.wrap ((IntKind.u64.wrap (a0.length : Int)) * (IntKind.u64.wrap a1))).toNat) (0 : Int)).length)) .n) ?_
  refine q3 ?_
  have h := si h
  subst h
  exact DoneS.ret Sees.refl rfl rfl
 intro k1 h
 refine q4 ?_
 refine ts (.k (.i 8 (vi (((Nat.min (List.take a0.length (List.drop 0 a0)).length ((List.replicate ((IntKind.u64.wrap ((IntKind.u64.wrap (a0.length : Int)) * (IntKind.u64.wrap a1))).toNat) (0 : Int)).length)) : Nat) : Int)) .n)) ?_
 refine TriE.loopN h (fun (t : Nat × (List Int)) => match t with | (v2, v3) => St.mk [(7, .own 1 0 ((List.replicate ((IntKind.u64.wrap ((IntKind.u64.wrap (a0.length : Int)) * (IntKind.u64.wrap a1))).toNat) (0 : Int)).length)), (8, vi v2)] [some (.row 1 (List.map vi a0)), some (.row 1 (List.map vi v3))]) rfl ?_
 clear h
 rintro back ⟨v2, v3⟩ h
 dsimp only [slices_Repeat_int_L1] at h
 refine q1 ?_
 refine sj ?_
 refine rk 3 (.k2 (.i 34 (vi v2) (.i 36 (vi (((List.replicate ((IntKind.u64.wrap ((IntKind.u64.wrap (a0.length : Int)) * (IntKind.u64.wrap a1))).toNat) (0 : Int)).length : Nat) : Int)) .n))) ?_
 refine jo 37 (.bin .lss false 34 36) (n_lss (i := v2) (j := (List.replicate ((IntKind.u64.wrap ((IntKind.u64.wrap (a0.length : Int)) * (IntKind.u64.wrap a1))).toNat) (0 : Int)).length) rfl rfl) ?_
 refine jf (.d (.k2 (.i 37 (vb (decide (v2 < ((List.replicate ((IntKind.u64.wrap ((IntKind.u64.wrap (a0.length : Int)) * (IntKind.u64.wrap a1))).toNat) (0 : Int)).length)))) .n))) ?_
 refine tc h (fun c8 h => ?_) (fun c8 h => ?_)
 ·refine q2 ?_
  refine q4 ?_
  refine ts (.k2 .n) ?_
  refine TriE.draw (by kernel_rfl) ?_
  refine dk 3 (.i 40 (vi v2) (.i 39 (.own 1 0 ((List.replicate ((IntKind.u64.wrap ((IntKind.u64.wrap (a0.length : Int)) * (IntKind.u64.wrap a1))).toNat) (0 : Int)).length)) (.i 38 (vi v2) .a))) ?_
  refine dp 41 (.slc 1 39 (some 40) none none) (ok_slco_lo0 (i := v2) rfl rfl rfl rfl c8) ?_
  refine dk 2 (.i 43 (vi v2) (.i 42 (.own 1 0 ((List.replicate ((IntKind.u64.wrap ((IntKind.u64.wrap (a0.length : Int)) * (IntKind.u64.wrap a1))).toNat) (0 : Int)).length)) .a)) ?_
  refine cK h fun c9 h => ?_
  refine dp 44 (.slc 1 42 none (some 43) none) (ok_slco_hi (j := v2) rfl rfl rfl rfl c9) ?_
  refine cK h fun c10 h => ?_
  refine cK h fun c11 h => ?_
  refine RegD.op (OpD.cpyM (k := 1) (e := vi) (l := v3) (l2 := (List.take v2 (List.drop 0 v3))) (nn := 1) (off := v2) (len := ((List.replicate ((IntKind.u64.wrap ((IntKind.u64.wrap (a0.length : Int)) * (IntKind.u64.wrap a1))).toNat) (0 : Int)).length) - v2) (rd := [1]) (x := .t 41) (y := .t 44) (by kernel_rfl) (cy (I0 45 (.copy 1 41 44))) rfl rfl rfl rfl rfl (els_ow2 (e := vi) (l := v3) rfl rfl c11) (fun _ h => nomatch h) c10) ?_
  refine cK h fun c12 h => ?_
  refine dp 46 (.bin .add false 38 45) (r_addn (i := v2) (j := Nat.min (List.take v2 (List.drop 0 v3)).length (((List.replicate ((IntKind.u64.wrap ((IntKind.u64.wrap (a0.length : Int)) * (IntKind.u64.wrap a1))).toNat) (0 : Int)).length) - v2)) rfl rfl c12) ?_
  refine RegD.run 1 [(8, vi ((v2 + (Nat.min (List.take v2 (List.drop 0 v3)).length (((List.replicate ((IntKind.u64.wrap ((IntKind.u64.wrap (a0.length : Int)) * (IntKind.u64.wrap a1))).toNat) (0 : Int)).length) - v2)) : Nat) : Int)), (46, vi ((v2 + (Nat.min (List.take v2 (List.drop 0 v3)).length (((List.replicate ((IntKind.u64.wrap ((IntKind.u64.wrap (a0.length : Int)) * (IntKind.u64.wrap a1))).toNat) (0 : Int)).length) - v2)) : Nat) : Int)), (45, vi ((Nat.min (List.take v2 (List.drop 0 v3)).length (((List.replicate ((IntKind.u64.wrap ((IntKind.u64.wrap (a0.length : Int)) * (IntKind.u64.wrap a1))).toNat) (0 : Int)).length) - v2) : Nat) : Int)), (44, .own 1 0 v2), (43, vi v2), (42, .own 1 0 ((List.replicate ((IntKind.u64.wrap ((IntKind.u64.wrap (a0.length : Int)) * (IntKind.u64.wrap a1))).toNat) (0 : Int)).length)), (41, .own 1 v2 (((List.replicate ((IntKind.u64.wrap ((IntKind.u64.wrap (a0.length : Int)) * (IntKind.u64.wrap a1))).toNat) (0 : Int)).length) - v2)), (40, vi v2), (39, .own 1 0 ((List.replicate ((IntKind.u64.wrap ((IntKind.u64.wrap (a0.length : Int)) * (IntKind.u64.wrap a1))).toNat) (0 : Int)).length)), (38, vi v2), (7, .own 1 0 ((List.replicate ((IntKind.u64.wrap ((IntKind.u64.wrap (a0.length : Int)) * (IntKind.u64.wrap a1))).toNat) (0 : Int)).length)), (8, vi v2)] [some (.row 1 (List.map vi a0)), some (.row 1 (List.map vi (cpyP v3 v2 (List.take (Nat.min (List.take v2 (List.drop 0 v3)).length (((List.replicate ((IntKind.u64.wrap ((IntKind.u64.wrap (a0.length : Int)) * (IntKind.u64.wrap a1))).toNat) (0 : Int)).length) - v2)) (List.take v2 (List.drop 0 v3)))))), none, none, none, none, none, none, none, none, none, none] (by kernel_rfl) ?_
  refine dfi (.d4 (.d4 (.d2 (.k (.i 8 (vi ((v2 + (Nat.min (List.take v2 (List.drop 0 v3)).length (((List.replicate ((IntKind.u64.wrap ((IntKind.u64.wrap (a0.length : Int)) * (IntKind.u64.wrap a1))).toNat) (0 : Int)).length) - v2)) : Nat) : Int)) .n))))) [0, 1] (obRen_row vi_frz rfl (obRen_row vi_frz rfl .nil)) ?_
  exact Vs.intro sy ⟨(v2 + (Nat.min (List.take v2 (List.drop 0 v3)).length (((List.replicate ((IntKind.u64.wrap ((IntKind.u64.wrap (a0.length : Int)) * (IntKind.u64.wrap a1))).toNat) (0 : Int)).length) - v2)), (cpyP v3 v2 (List.take (Nat.min (List.take v2 (List.drop 0 v3)).length (((List.replicate ((IntKind.u64.wrap ((IntKind.u64.wrap (a0.length : Int)) * (IntKind.u64.wrap a1))).toNat) (0 : Int)).length) - v2)) (List.take v2 (List.drop 0 v3))))), rfl, h⟩
 refine q5 ?_
 exact Vs.intro sy ⟨v3, rfl, h⟩
set_option maxHeartbeats 1000000 in
theorem diary_schedule_ok (n : Nat) (a0 : List Window) (r : (List Int)) (h : diary_schedule n a0 = some r) : FnL Try.prog 90 [eS 2 eWindow a0] [] (.own 0 0 ((List.replicate ((IntKind.u64.wrap ((IntKind.u64.wrap ((([(-1)] : List Int).length : Nat) : Int)) * (IntKind.u64.wrap ((a0.length : Nat) : Int)))).toNat) (0 : Int)).length)) [some (.row 1 (List.map vi r))] := by
  dsimp only [diary_schedule] at h
  refine FnL.ofS (ts := [2]) Try.call90 Try.func90 rfl rfl (Nat.le_of_ble_eq_true rfl) (Nat.le_of_ble_eq_true rfl) (fun j h => absurd h (Nat.not_lt_zero j)) ?_
  show TriE _ _ _ _ _ (St.mk [(0, eS 2 eWindow a0)] []) _
  refine TriE.seq ?_
  refine TriE.run [(0, eS 2 eWindow a0)] [] (by kernel_rfl) ?_
  refine TriE.seq ?_
  refine TriE.regJ ?_
  refine RegJ.run 2 [(0, eS 2 eWindow a0), (8, .own 0 0 1), (9, eS 2 eWindow a0)] [some (.row 1 [vi (-1)])] (by kernel_rfl) ?_
  refine jv (vi ((a0.length : Nat) : Int)) (cz (I0 10 (.len 0 (.t 9))) (by kernel_rfl)) (ok_len_m rfl) rfl ?_
  refine bK h fun y1 hy1 h => ?_
  refine RegJ.op (Op1.call (y' := .own 1 0 ((List.replicate ((IntKind.u64.wrap ((IntKind.u64.wrap ((([(-1)] : List Int).length : Nat) : Int)) * (IntKind.u64.wrap ((a0.length : Nat) : Int)))).toNat) (0 : Int)).length)) (obx := [some (.row 1 [vi (-1)])]) (oby := [some (.row 1 (List.map vi ([(-1)] : List Int))), some (.row 1 (List.map vi y1))]) (ob2 := [some (.row 1 (List.map vi ([(-1)] : List Int))), some (.row 1 (List.map vi y1))]) _ _ (cz (I0 11 (.call 116 [(.t 8), (.t 10)])) (by kernel_rfl)) rfl (slices_Repeat_int_ok n ([(-1)] : List Int) ((a0.length : Nat) : Int) y1 hy1) [0] (by kernel_rfl) (.cons rfl (.cons rfl (.cons rfl .nil))) (by kernel_rfl) (by kernel_rfl) (.same (row_ren vi_frz _ _ _) .nil) (by kernel_rfl) (.same (row_ren vi_frz _ _ _) (.same (row_ren vi_frz _ _ _) .nil)) (by kernel_rfl)) ?_
  refine jrd 1 [(0, eS 2 eWindow a0), (3, .own 1 0 ((List.replicate ((IntKind.u64.wrap ((IntKind.u64.wrap ((([(-1)] : List Int).length : Nat) : Int)) * (IntKind.u64.wrap ((a0.length : Nat) : Int)))).toNat) (0 : Int)).length))] [some (.row 1 (List.map vi ([(-1)] : List Int))), some (.row 1 (List.map vi y1))] (by kernel_rfl) rfl ?_
  refine TriE.seqK h (fun (v16 : (List Int)) => St.mk [(3, .own 0 0 ((List.replicate ((IntKind.u64.wrap ((IntKind.u64.wrap ((([(-1)] : List Int).length : Nat) : Int)) * (IntKind.u64.wrap ((a0.length : Nat) : Int)))).toNat) (0 : Int)).length))] [some (.row 1 (List.map vi v16))]) ?_ ?_
  · rintro v16 h
    show TriE _ _ _ _ _ (St.mk [(3, .own 0 0 ((List.replicate ((IntKind.u64.wrap ((IntKind.u64.wrap ((([(-1)] : List Int).length : Nat) : Int)) * (IntKind.u64.wrap ((a0.length : Nat) : Int)))).toNat) (0 : Int)).length))] [some (.row 1 (List.map vi v16))]) _
    refine TriE.seq ?_
    refine TriE.run [(2, .own 0 0 ((List.replicate ((IntKind.u64.wrap ((IntKind.u64.wrap ((([(-1)] : List Int).length : Nat) : Int)) * (IntKind.u64.wrap ((a0.length : Nat) : Int)))).toNat) (0 : Int)).length))] [some (.row 1 (List.map vi v16))] (by kernel_rfl) ?_
    refine TriE.ret ?_
    have h := Option.some.inj h
    subst h
    exact DoneS.ret (S' := ⟨[(2, .own 0 0 ((List.replicate ((IntKind.u64.wrap ((IntKind.u64.wrap ((([(-1)] : List Int).length : Nat) : Int)) * (IntKind.u64.wrap ((a0.length : Nat) : Int)))).toNat) (0 : Int)).length))], [some (.row 1 (List.map vi v16))]⟩) Sees.refl rfl rfl
  intro k4 h
  refine TriE.seq ?_
  refine TriE.run [(0, eS 2 eWindow a0), (3, .own 1 0 ((List.replicate ((IntKind.u64.wrap ((IntKind.u64.wrap ((([(-1)] : List Int).length : Nat) : Int)) * (IntKind.u64.wrap ((a0.length : Nat) : Int)))).toNat) (0 : Int)).length)), (12, vi 0)] [some (.row 1 (List.map vi ([(-1)] : List Int))), some (.row 1 (List.map vi y1))] (by kernel_rfl) ?_
  refine TriE.block ?_
  refine TriE.sees (S' := ⟨[(0, eS 2 eWindow a0), (3, .own 0 0 ((List.replicate ((IntKind.u64.wrap ((IntKind.u64.wrap ((([(-1)] : List Int).length : Nat) : Int)) * (IntKind.u64.wrap ((a0.length : Nat) : Int)))).toNat) (0 : Int)).length)), (12, vi ((0 : Nat) : Int))], [some (.row 1 (List.map vi y1))]⟩) (sc [1] (by decide) (by kernel_rfl) (obRen_row vi_frz rfl .nil) rfl rfl) ?_
  refine TriE.loopN h (fun (t : Nat × (List Int)) => match t with | (v8, v9) => St.mk [(0, eS 2 eWindow a0), (3, .own 0 0 ((List.replicate ((IntKind.u64.wrap ((IntKind.u64.wrap ((([(-1)] : List Int).length : Nat) : Int)) * (IntKind.u64.wrap ((a0.length : Nat) : Int)))).toNat) (0 : Int)).length)), (12, vi ((v8 : Nat) : Int))] [some (.row 1 (List.map vi v9))]) rfl ?_
  clear h
  rintro back ⟨v8, v9⟩ h
  dsimp only [diary_schedule_L2] at h
  show TriE _ _ _ _ _ (St.mk [(0, eS 2 eWindow a0), (3, .own 0 0 ((List.replicate ((IntKind.u64.wrap ((IntKind.u64.wrap ((([(-1)] : List Int).length : Nat) : Int)) * (IntKind.u64.wrap ((a0.length : Nat) : Int)))).toNat) (0 : Int)).length)), (12, vi ((v8 : Nat) : Int))] [some (.row 1 (List.map vi v9))]) _
  refine TriE.seq ?_
  refine TriE.regJ ?_
  refine jv (vb (decide (v8 < 1000))) (cz (I0 13 (.bin .lss false (.t 12) (.c (.p (.int .i64 1000))))) (by kernel_rfl)) (n_lss (i := v8) (j := 1000) rfl rfl) rfl ?_
  refine jd [(0, eS 2 eWindow a0), (3, .own 0 0 ((List.replicate ((IntKind.u64.wrap ((IntKind.u64.wrap ((([(-1)] : List Int).length : Nat) : Int)) * (IntKind.u64.wrap ((a0.length : Nat) : Int)))).toNat) (0 : Int)).length)), (12, vi ((v8 : Nat) : Int)), (13, vb (decide (v8 < 1000)))] (by kernel_rfl) rfl ?_
  refine TriE.seq ?_
  refine TriE.cond (b := decide (v8 < 1000)) rfl (fun c1 => ?_) (fun c1 => ?_)
  · have h := cond_t h c1
    refine TriE.skip ?_
    refine TriE.seqK h (fun (v15 : (List Int)) => St.mk [(0, eS 2 eWindow a0), (3, .own 0 0 ((List.replicate ((IntKind.u64.wrap ((IntKind.u64.wrap ((([(-1)] : List Int).length : Nat) : Int)) * (IntKind.u64.wrap ((a0.length : Nat) : Int)))).toNat) (0 : Int)).length)), (12, vi ((v8 : Nat) : Int))] [some (.row 1 (List.map vi v15))]) ?_ ?_
    · rintro v15 h
      show TriE _ _ _ _ _ (St.mk [(0, eS 2 eWindow a0), (3, .own 0 0 ((List.replicate ((IntKind.u64.wrap ((IntKind.u64.wrap ((([(-1)] : List Int).length : Nat) : Int)) * (IntKind.u64.wrap ((a0.length : Nat) : Int)))).toNat) (0 : Int)).length)), (12, vi ((v8 : Nat) : Int))] [some (.row 1 (List.map vi v15))]) _
      refine TriE.regJ ?_
      refine cK h fun c12 h => ?_
      refine jv (vi ((v8 + 1 : Nat) : Int)) (cz (I0 61 (.bin .add false (.t 12) (.c (.p (.int .i64 1))))) (by kernel_rfl)) (r_addn (i := v8) (j := 1) rfl rfl c12) rfl ?_
      refine jrd 1 [(0, eS 2 eWindow a0), (3, .own 0 0 ((List.replicate ((IntKind.u64.wrap ((IntKind.u64.wrap ((([(-1)] : List Int).length : Nat) : Int)) * (IntKind.u64.wrap ((a0.length : Nat) : Int)))).toNat) (0 : Int)).length)), (12, vi ((v8 + 1 : Nat) : Int))] [some (.row 1 (List.map vi v15))] (by kernel_rfl) rfl ?_
      exact Vs.intro (sl (by kernel_rfl)) ⟨(v8 + 1, v15), rfl, h⟩
    intro k3 h
    refine TriE.block ?_
    refine TriE.seq ?_
    refine TriE.run [(0, eS 2 eWindow a0), (3, .own 0 0 ((List.replicate ((IntKind.u64.wrap ((IntKind.u64.wrap ((([(-1)] : List Int).length : Nat) : Int)) * (IntKind.u64.wrap ((a0.length : Nat) : Int)))).toNat) (0 : Int)).length)), (12, vi ((v8 : Nat) : Int)), (4, vi ((v8 : Nat) : Int))] [some (.row 1 (List.map vi v9))] (by kernel_rfl) ?_
    refine TriE.seq ?_
    refine TriE.run [(0, eS 2 eWindow a0), (3, .own 0 0 ((List.replicate ((IntKind.u64.wrap ((IntKind.u64.wrap ((([(-1)] : List Int).length : Nat) : Int)) * (IntKind.u64.wrap ((a0.length : Nat) : Int)))).toNat) (0 : Int)).length)), (12, vi ((v8 : Nat) : Int)), (4, vi ((v8 : Nat) : Int)), (5, vi (-1))] [some (.row 1 (List.map vi v9))] (by kernel_rfl) ?_
    refine TriE.seqK h (fun (v14 : Int) => St.mk [(0, eS 2 eWindow a0), (3, .own 0 0 ((List.replicate ((IntKind.u64.wrap ((IntKind.u64.wrap ((([(-1)] : List Int).length : Nat) : Int)) * (IntKind.u64.wrap ((a0.length : Nat) : Int)))).toNat) (0 : Int)).length)), (12, vi ((v8 : Nat) : Int)), (4, vi ((v8 : Nat) : Int)), (5, vi v14)] [some (.row 1 (List.map vi v9))]) ?_ ?_
    · rintro v14 h
      show TriE _ _ _ _ _ (St.mk [(0, eS 2 eWindow a0), (3, .own 0 0 ((List.replicate ((IntKind.u64.wrap ((IntKind.u64.wrap ((([(-1)] : List Int).length : Nat) : Int)) * (IntKind.u64.wrap ((a0.length : Nat) : Int)))).toNat) (0 : Int)).length)), (12, vi ((v8 : Nat) : Int)), (4, vi ((v8 : Nat) : Int)), (5, vi v14)] [some (.row 1 (List.map vi v9))]) _
      refine TriE.seq ?_
      refine TriE.run [(0, eS 2 eWindow a0), (3, .own 0 0 ((List.replicate ((IntKind.u64.wrap ((IntKind.u64.wrap ((([(-1)] : List Int).length : Nat) : Int)) * (IntKind.u64.wrap ((a0.length : Nat) : Int)))).toNat) (0 : Int)).length)), (12, vi ((v8 : Nat) : Int)), (4, vi ((v8 : Nat) : Int)), (5, vi v14), (56, vb (decide ((0 : Int) ≤ v14)))] [some (.row 1 (List.map vi v9))] (by kernel_rfl) ?_
      refine TriE.cond (b := decide ((0 : Int) ≤ v14)) rfl (fun c9 => ?_) (fun c9 => ?_)
      · have h := cond_t h c9
        refine TriE.regJ ?_
        refine RegJ.run 3 [(0, eS 2 eWindow a0), (3, .own 0 0 ((List.replicate ((IntKind.u64.wrap ((IntKind.u64.wrap ((([(-1)] : List Int).length : Nat) : Int)) * (IntKind.u64.wrap ((a0.length : Nat) : Int)))).toNat) (0 : Int)).length)), (12, vi ((v8 : Nat) : Int)), (57, .own 0 0 ((List.replicate ((IntKind.u64.wrap ((IntKind.u64.wrap ((([(-1)] : List Int).length : Nat) : Int)) * (IntKind.u64.wrap ((a0.length : Nat) : Int)))).toNat) (0 : Int)).length)), (58, vi v14), (59, vi ((v8 : Nat) : Int))] [some (.row 1 (List.map vi v9))] (by kernel_rfl) ?_
        refine cK h fun c10 h => ?_
        refine jv (.ptr 0 v14.toNat 0) (cz (I0 60 (.iaddr 1 (.t 57) (.t 58))) (by kernel_rfl)) (ok_iaddr_o0 (j := v14.toNat) rfl rfl rfl (inB_to c10) (inB_lt c10)) rfl ?_
        refine cK h fun c11 h => ?_
        refine je (.undef) [some (.row 1 (List.map vi (List.set v9 v14.toNat ((v8 : Nat) : Int))))] (cz (IN (.store 1 (.t 60) (.t 59))) (by kernel_rfl)) (ok_store_m (l := v9) (e := vi) (x' := ((v8 : Nat) : Int)) (u := vi ((v8 : Nat) : Int)) rfl rfl rfl c11 rfl rfl) rfl rfl rfl ?_
        refine jd [(0, eS 2 eWindow a0), (3, .own 0 0 ((List.replicate ((IntKind.u64.wrap ((IntKind.u64.wrap ((([(-1)] : List Int).length : Nat) : Int)) * (IntKind.u64.wrap ((a0.length : Nat) : Int)))).toNat) (0 : Int)).length)), (12, vi ((v8 : Nat) : Int))] (by kernel_rfl) rfl ?_
        exact Vs.intro Sees.refl ⟨(List.set v9 v14.toNat ((v8 : Nat) : Int)), rfl, h⟩
      have h := cond_f h c9
      refine TriE.skip ?_
      exact Vs.intro (sl (by kernel_rfl)) ⟨v9, rfl, h⟩
    intro k2 h
    refine TriE.seq ?_
    refine TriE.regJ ?_
    refine RegJ.run 1 [(0, eS 2 eWindow a0), (3, .own 0 0 ((List.replicate ((IntKind.u64.wrap ((IntKind.u64.wrap ((([(-1)] : List Int).length : Nat) : Int)) * (IntKind.u64.wrap ((a0.length : Nat) : Int)))).toNat) (0 : Int)).length)), (12, vi ((v8 : Nat) : Int)), (4, vi ((v8 : Nat) : Int)), (5, vi (-1)), (15, eS 2 eWindow a0)] [some (.row 1 (List.map vi v9))] (by kernel_rfl) ?_
    refine jv (vi ((a0.length : Nat) : Int)) (cz (I0 16 (.len 0 (.t 15))) (by kernel_rfl)) (ok_len_m rfl) rfl ?_
    refine jrd 1 [(0, eS 2 eWindow a0), (3, .own 0 0 ((List.replicate ((IntKind.u64.wrap ((IntKind.u64.wrap ((([(-1)] : List Int).length : Nat) : Int)) * (IntKind.u64.wrap ((a0.length : Nat) : Int)))).toNat) (0 : Int)).length)), (12, vi ((v8 : Nat) : Int)), (4, vi ((v8 : Nat) : Int)), (5, vi (-1)), (15, eS 2 eWindow a0), (16, vi ((a0.length : Nat) : Int)), (17, vi 0)] [some (.row 1 (List.map vi v9))] (by kernel_rfl) rfl ?_
    refine TriE.block ?_
    refine TriE.sees (S' := ⟨[(0, eS 2 eWindow a0), (3, .own 0 0 ((List.replicate ((IntKind.u64.wrap ((IntKind.u64.wrap ((([(-1)] : List Int).length : Nat) : Int)) * (IntKind.u64.wrap ((a0.length : Nat) : Int)))).toNat) (0 : Int)).length)), (12, vi ((v8 : Nat) : Int)), (4, vi ((v8 : Nat) : Int)), (5, vi (-1)), (15, eS 2 eWindow a0), (16, vi ((a0.length : Nat) : Int)), (17, vi ((0 : Nat) : Int))], [some (.row 1 (List.map vi v9))]⟩) (sl (by kernel_rfl)) ?_
    refine TriE.loopN h (fun (t : Int × Nat) => match t with | (v11, v12) => St.mk [(0, eS 2 eWindow a0), (3, .own 0 0 ((List.replicate ((IntKind.u64.wrap ((IntKind.u64.wrap ((([(-1)] : List Int).length : Nat) : Int)) * (IntKind.u64.wrap ((a0.length : Nat) : Int)))).toNat) (0 : Int)).length)), (12, vi ((v8 : Nat) : Int)), (4, vi ((v8 : Nat) : Int)), (5, vi v11), (15, eS 2 eWindow a0), (16, vi ((a0.length : Nat) : Int)), (17, vi ((v12 : Nat) : Int))] [some (.row 1 (List.map vi v9))]) rfl ?_
    clear h
    rintro back ⟨v11, v12⟩ h
    dsimp only [diary_schedule_L1] at h
    show TriE _ _ _ _ _ (St.mk [(0, eS 2 eWindow a0), (3, .own 0 0 ((List.replicate ((IntKind.u64.wrap ((IntKind.u64.wrap ((([(-1)] : List Int).length : Nat) : Int)) * (IntKind.u64.wrap ((a0.length : Nat) : Int)))).toNat) (0 : Int)).length)), (12, vi ((v8 : Nat) : Int)), (4, vi ((v8 : Nat) : Int)), (5, vi v11), (15, eS 2 eWindow a0), (16, vi ((a0.length : Nat) : Int)), (17, vi ((v12 : Nat) : Int))] [some (.row 1 (List.map vi v9))]) _
    refine TriE.seq ?_
    refine TriE.regJ ?_
    refine jv (vb (decide (v12 < a0.length))) (cz (I0 18 (.bin .lss false (.t 17) (.t 16))) (by kernel_rfl)) (n_lss (i := v12) (j := a0.length) rfl rfl) rfl ?_
    refine jd [(0, eS 2 eWindow a0), (3, .own 0 0 ((List.replicate ((IntKind.u64.wrap ((IntKind.u64.wrap ((([(-1)] : List Int).length : Nat) : Int)) * (IntKind.u64.wrap ((a0.length : Nat) : Int)))).toNat) (0 : Int)).length)), (12, vi ((v8 : Nat) : Int)), (4, vi ((v8 : Nat) : Int)), (5, vi v11), (15, eS 2 eWindow a0), (16, vi ((a0.length : Nat) : Int)), (17, vi ((v12 : Nat) : Int)), (18, vb (decide (v12 < a0.length)))] (by kernel_rfl) rfl ?_
    refine TriE.seq ?_
    refine TriE.cond (b := decide (v12 < a0.length)) rfl (fun c2 => ?_) (fun c2 => ?_)
    · have h := cond_t h c2
      refine TriE.skip ?_
      refine TriE.seqK h (fun (v13 : Int) => St.mk [(0, eS 2 eWindow a0), (3, .own 0 0 ((List.replicate ((IntKind.u64.wrap ((IntKind.u64.wrap ((([(-1)] : List Int).length : Nat) : Int)) * (IntKind.u64.wrap ((a0.length : Nat) : Int)))).toNat) (0 : Int)).length)), (12, vi ((v8 : Nat) : Int)), (4, vi ((v8 : Nat) : Int)), (15, eS 2 eWindow a0), (16, vi ((a0.length : Nat) : Int)), (17, vi ((v12 : Nat) : Int)), (5, vi v13)] [some (.row 1 (List.map vi v9))]) ?_ ?_
      · rintro v13 h
        show TriE _ _ _ _ _ (St.mk [(0, eS 2 eWindow a0), (3, .own 0 0 ((List.replicate ((IntKind.u64.wrap ((IntKind.u64.wrap ((([(-1)] : List Int).length : Nat) : Int)) * (IntKind.u64.wrap ((a0.length : Nat) : Int)))).toNat) (0 : Int)).length)), (12, vi ((v8 : Nat) : Int)), (4, vi ((v8 : Nat) : Int)), (15, eS 2 eWindow a0), (16, vi ((a0.length : Nat) : Int)), (17, vi ((v12 : Nat) : Int)), (5, vi v13)] [some (.row 1 (List.map vi v9))]) _
        refine TriE.regJ ?_
        refine cK h fun c8 h => ?_
        refine jv (vi ((v12 + 1 : Nat) : Int)) (cz (I0 54 (.bin .add false (.t 17) (.c (.p (.int .i64 1))))) (by kernel_rfl)) (r_addn (i := v12) (j := 1) rfl rfl c8) rfl ?_
        refine jrd 1 [(0, eS 2 eWindow a0), (3, .own 0 0 ((List.replicate ((IntKind.u64.wrap ((IntKind.u64.wrap ((([(-1)] : List Int).length : Nat) : Int)) * (IntKind.u64.wrap ((a0.length : Nat) : Int)))).toNat) (0 : Int)).length)), (12, vi ((v8 : Nat) : Int)), (4, vi ((v8 : Nat) : Int)), (15, eS 2 eWindow a0), (16, vi ((a0.length : Nat) : Int)), (5, vi v13), (17, vi ((v12 + 1 : Nat) : Int))] [some (.row 1 (List.map vi v9))] (by kernel_rfl) rfl ?_
        exact Vs.intro (sl (by kernel_rfl)) ⟨(v13, v12 + 1), rfl, h⟩
      intro k1 h
      refine TriE.block ?_
      refine TriE.seq ?_
      refine TriE.regJ ?_
      refine RegJ.run 1 [(0, eS 2 eWindow a0), (3, .own 0 0 ((List.replicate ((IntKind.u64.wrap ((IntKind.u64.wrap ((([(-1)] : List Int).length : Nat) : Int)) * (IntKind.u64.wrap ((a0.length : Nat) : Int)))).toNat) (0 : Int)).length)), (12, vi ((v8 : Nat) : Int)), (4, vi ((v8 : Nat) : Int)), (5, vi v11), (15, eS 2 eWindow a0), (16, vi ((a0.length : Nat) : Int)), (17, vi ((v12 : Nat) : Int)), (19, vi ((v12 : Nat) : Int))] [some (.row 1 (List.map vi v9))] (by kernel_rfl) ?_
      refine jv (.fptr 2 (List.map eWindow a0) v12 0) (cz (I0 20 (.iaddr 2 (.t 15) (.t 17))) (by kernel_rfl)) (ok_iaddr_m (j := v12) rfl rfl rfl c2) rfl ?_
      refine jv (.agg [vi ((ix a0 v12).From), vi ((ix a0 v12).To)]) (cz (I0 21 (.load true 2 (.t 20))) (by kernel_rfl)) (ok_load_fm (v := .agg [vi ((ix a0 v12).From), vi ((ix a0 v12).To)]) rfl c2 rfl) rfl ?_
      refine jrd 3 [(0, eS 2 eWindow a0), (3, .own 0 0 ((List.replicate ((IntKind.u64.wrap ((IntKind.u64.wrap ((([(-1)] : List Int).length : Nat) : Int)) * (IntKind.u64.wrap ((a0.length : Nat) : Int)))).toNat) (0 : Int)).length)), (12, vi ((v8 : Nat) : Int)), (4, vi ((v8 : Nat) : Int)), (5, vi v11), (15, eS 2 eWindow a0), (16, vi ((a0.length : Nat) : Int)), (17, vi ((v12 : Nat) : Int)), (7, .ptr 1 0 0), (6, vi ((v12 : Nat) : Int))] [some (.row 1 (List.map vi v9)), some (.row 2 [.agg [vi ((ix a0 v12).From), vi ((ix a0 v12).To)]])] (by kernel_rfl) rfl ?_
      refine TriE.seq ?_
      refine TriE.sees (Sees.less (fr' := [(0, eS 2 eWindow a0), (3, .own 0 0 ((List.replicate ((IntKind.u64.wrap ((IntKind.u64.wrap ((([(-1)] : List Int).length : Nat) : Int)) * (IntKind.u64.wrap ((a0.length : Nat) : Int)))).toNat) (0 : Int)).length)), (12, vi ((v8 : Nat) : Int)), (4, vi ((v8 : Nat) : Int)), (5, vi v11), (15, eS 2 eWindow a0), (16, vi ((a0.length : Nat) : Int)), (17, vi ((v12 : Nat) : Int)), (7, .ptr 1 0 0), (6, vi ((v12 : Nat) : Int))]) (.cons rfl (.cons rfl (.cons rfl (.cons rfl (.cons rfl (.cons rfl (.cons rfl (.cons rfl (.cons rfl (.cons rfl .nil))))))))))) ?_
      refine TriE.draw (by kernel_rfl) ?_
      refine RegD.run 2 [(23, vi ((v12 : Nat) : Int)), (22, .own 0 0 ((List.replicate ((IntKind.u64.wrap ((IntKind.u64.wrap ((([(-1)] : List Int).length : Nat) : Int)) * (IntKind.u64.wrap ((a0.length : Nat) : Int)))).toNat) (0 : Int)).length)), (0, eS 2 eWindow a0), (3, .own 0 0 ((List.replicate ((IntKind.u64.wrap ((IntKind.u64.wrap ((([(-1)] : List Int).length : Nat) : Int)) * (IntKind.u64.wrap ((a0.length : Nat) : Int)))).toNat) (0 : Int)).length)), (12, vi ((v8 : Nat) : Int)), (4, vi ((v8 : Nat) : Int)), (5, vi v11), (15, eS 2 eWindow a0), (16, vi ((a0.length : Nat) : Int)), (17, vi ((v12 : Nat) : Int)), (7, .ptr 1 0 0), (6, vi ((v12 : Nat) : Int))] [some (.row 1 (List.map vi v9)), some (.row 2 [.agg [vi ((ix a0 v12).From), vi ((ix a0 v12).To)]]), none, none] (by kernel_rfl) ?_
      refine cK h fun c3 h => ?_
      refine dv (.ptr 0 v12 0) (cz (I0 24 (.iaddr 1 (.t 22) (.t 23))) (by kernel_rfl)) (ok_iaddr_o0 (j := v12) rfl rfl rfl rfl c3) rfl ?_
      refine cK h fun c4 h => ?_
      refine dv (vi (ix v9 v12)) (cz (I0 25 (.load false 1 (.t 24))) (by kernel_rfl)) (ok_load_pm (l := v9) (e := vi) (v := vi (ix v9 v12)) rfl rfl c4 rfl) rfl ?_
      refine RegD.run 2 [(27, vb (decide ((ix v9 v12) < (0 : Int)))), (26, vb (decide ((ix v9 v12) < (0 : Int)))), (25, vi (ix v9 v12)), (24, .ptr 0 v12 0), (23, vi ((v12 : Nat) : Int)), (22, .own 0 0 ((List.replicate ((IntKind.u64.wrap ((IntKind.u64.wrap ((([(-1)] : List Int).length : Nat) : Int)) * (IntKind.u64.wrap ((a0.length : Nat) : Int)))).toNat) (0 : Int)).length)), (0, eS 2 eWindow a0), (3, .own 0 0 ((List.replicate ((IntKind.u64.wrap ((IntKind.u64.wrap ((([(-1)] : List Int).length : Nat) : Int)) * (IntKind.u64.wrap ((a0.length : Nat) : Int)))).toNat) (0 : Int)).length)), (12, vi ((v8 : Nat) : Int)), (4, vi ((v8 : Nat) : Int)), (5, vi v11), (15, eS 2 eWindow a0), (16, vi ((a0.length : Nat) : Int)), (17, vi ((v12 : Nat) : Int)), (7, .ptr 1 0 0), (6, vi ((v12 : Nat) : Int))] [some (.row 1 (List.map vi v9)), some (.row 2 [.agg [vi ((ix a0 v12).From), vi ((ix a0 v12).To)]]), none, none, none, none, none, none] (by kernel_rfl) ?_
      refine RegD.op (OpD.valk (g := decide ((ix v9 v12) < (0 : Int))) (v := .ptr 1 0 0) _ _ (cz (IG 28 (.faddr 0 (.t 7)) 27 true) (by kernel_rfl)) rfl (by kernel_rfl) (fun hg => (.cons rfl .nil))) ?_
      refine RegD.op (OpD.valk (g := decide ((ix v9 v12) < (0 : Int))) (v := vi ((ix a0 v12).From)) _ _ (cz (IG 29 (.load false 1 (.t 28)) 27 true) (by kernel_rfl)) rfl (by kernel_rfl) (fun hg => (.cons hg .nil))) ?_
      refine RegD.op (OpD.valk (g := decide ((ix v9 v12) < (0 : Int))) (v := vi ((v8 : Nat) : Int)) _ _ (cz (IG 30 (.mov (.t 4)) 27 true) (by kernel_rfl)) rfl (by kernel_rfl) (fun hg => (.cons rfl .nil))) ?_
      refine RegD.op (OpD.valk (g := decide ((ix v9 v12) < (0 : Int))) (v := vb (decide (((ix a0 v12).From) ≤ ((v8 : Nat) : Int)))) _ _ (cz (IG 31 (.bin .leq false (.t 29) (.t 30)) 27 true) (by kernel_rfl)) rfl (by kernel_rfl) (fun hg => (.cons hg (.cons hg .nil)))) ?_
      refine RegD.op (OpD.and (cz (I0 32 (.pick (.t 27) (.t 31) (.c (.p (.bool false))))) (by kernel_rfl)) rfl rfl (by first | exact hokA1 | exact hokA0 | simp)) ?_
      refine RegD.run 1 [(33, vb ((decide ((ix v9 v12) < (0 : Int))) && (decide (((ix a0 v12).From) ≤ ((v8 : Nat) : Int))))), (32, vb ((decide ((ix v9 v12) < (0 : Int))) && (decide (((ix a0 v12).From) ≤ ((v8 : Nat) : Int))))), (31, .cond (decide ((ix v9 v12) < (0 : Int))) (vb (decide (((ix a0 v12).From) ≤ ((v8 : Nat) : Int))))), (30, .cond (decide ((ix v9 v12) < (0 : Int))) (vi ((v8 : Nat) : Int))), (29, .cond (decide ((ix v9 v12) < (0 : Int))) (vi ((ix a0 v12).From))), (28, .cond (decide ((ix v9 v12) < (0 : Int))) (.ptr 1 0 0)), (27, vb (decide ((ix v9 v12) < (0 : Int)))), (26, vb (decide ((ix v9 v12) < (0 : Int)))), (25, vi (ix v9 v12)), (24, .ptr 0 v12 0), (23, vi ((v12 : Nat) : Int)), (22, .own 0 0 ((List.replicate ((IntKind.u64.wrap ((IntKind.u64.wrap ((([(-1)] : List Int).length : Nat) : Int)) * (IntKind.u64.wrap ((a0.length : Nat) : Int)))).toNat) (0 : Int)).length)), (0, eS 2 eWindow a0), (3, .own 0 0 ((List.replicate ((IntKind.u64.wrap ((IntKind.u64.wrap ((([(-1)] : List Int).length : Nat) : Int)) * (IntKind.u64.wrap ((a0.length : Nat) : Int)))).toNat) (0 : Int)).length)), (12, vi ((v8 : Nat) : Int)), (4, vi ((v8 : Nat) : Int)), (5, vi v11), (15, eS 2 eWindow a0), (16, vi ((a0.length : Nat) : Int)), (17, vi ((v12 : Nat) : Int)), (7, .ptr 1 0 0), (6, vi ((v12 : Nat) : Int))] [some (.row 1 (List.map vi v9)), some (.row 2 [.agg [vi ((ix a0 v12).From), vi ((ix a0 v12).To)]]), none, none, none, none, none, none, none, none, none, none, none, none] (by kernel_rfl) ?_
      refine RegD.op (OpD.valk (g := (decide ((ix v9 v12) < (0 : Int))) && (decide (((ix a0 v12).From) ≤ ((v8 : Nat) : Int)))) (v := vi ((v8 : Nat) : Int)) _ _ (cz (IG 34 (.mov (.t 4)) 33 true) (by kernel_rfl)) rfl (by kernel_rfl) (fun hg => (.cons rfl .nil))) ?_
      refine RegD.op (OpD.valk (g := (decide ((ix v9 v12) < (0 : Int))) && (decide (((ix a0 v12).From) ≤ ((v8 : Nat) : Int)))) (v := .ptr 1 0 1) _ _ (cz (IG 35 (.faddr 1 (.t 7)) 33 true) (by kernel_rfl)) rfl (by kernel_rfl) (fun hg => (.cons rfl .nil))) ?_
      refine RegD.op (OpD.valk (g := (decide ((ix v9 v12) < (0 : Int))) && (decide (((ix a0 v12).From) ≤ ((v8 : Nat) : Int)))) (v := vi ((ix a0 v12).To)) _ _ (cz (IG 36 (.load false 1 (.t 35)) 33 true) (by kernel_rfl)) rfl (by kernel_rfl) (fun hg => (.cons hg .nil))) ?_
      refine RegD.op (OpD.valk (g := (decide ((ix v9 v12) < (0 : Int))) && (decide (((ix a0 v12).From) ≤ ((v8 : Nat) : Int)))) (v := vb (decide (((v8 : Nat) : Int) < ((ix a0 v12).To)))) _ _ (cz (IG 37 (.bin .lss false (.t 34) (.t 36)) 33 true) (by kernel_rfl)) rfl (by kernel_rfl) (fun hg => (.cons hg (.cons hg .nil)))) ?_
      refine RegD.op (OpD.and (cz (I0 38 (.pick (.t 33) (.t 37) (.c (.p (.bool false))))) (by kernel_rfl)) rfl rfl (by first | exact hokA1 | exact hokA0 | simp)) ?_
      refine RegD.run 1 [(39, vb (((decide ((ix v9 v12) < (0 : Int))) && (decide (((ix a0 v12).From) ≤ ((v8 : Nat) : Int)))) && (decide (((v8 : Nat) : Int) < ((ix a0 v12).To))))), (38, vb (((decide ((ix v9 v12) < (0 : Int))) && (decide (((ix a0 v12).From) ≤ ((v8 : Nat) : Int)))) && (decide (((v8 : Nat) : Int) < ((ix a0 v12).To))))), (37, .cond ((decide ((ix v9 v12) < (0 : Int))) && (decide (((ix a0 v12).From) ≤ ((v8 : Nat) : Int)))) (vb (decide (((v8 : Nat) : Int) < ((ix a0 v12).To))))), (36, .cond ((decide ((ix v9 v12) < (0 : Int))) && (decide (((ix a0 v12).From) ≤ ((v8 : Nat) : Int)))) (vi ((ix a0 v12).To))), (35, .cond ((decide ((ix v9 v12) < (0 : Int))) && (decide (((ix a0 v12).From) ≤ ((v8 : Nat) : Int)))) (.ptr 1 0 1)), (34, .cond ((decide ((ix v9 v12) < (0 : Int))) && (decide (((ix a0 v12).From) ≤ ((v8 : Nat) : Int)))) (vi ((v8 : Nat) : Int))), (33, vb ((decide ((ix v9 v12) < (0 : Int))) && (decide (((ix a0 v12).From) ≤ ((v8 : Nat) : Int))))), (32, vb ((decide ((ix v9 v12) < (0 : Int))) && (decide (((ix a0 v12).From) ≤ ((v8 : Nat) : Int))))), (31, .cond (decide ((ix v9 v12) < (0 : Int))) (vb (decide (((ix a0 v12).From) ≤ ((v8 : Nat) : Int))))), (30, .cond (decide ((ix v9 v12) < (0 : Int))) (vi ((v8 : Nat) : Int))), (29, .cond (decide ((ix v9 v12) < (0 : Int))) (vi ((ix a0 v12).From))), (28, .cond (decide ((ix v9 v12) < (0 : Int))) (.ptr 1 0 0)), (27, vb (decide ((ix v9 v12) < (0 : Int)))), (26, vb (decide ((ix v9 v12) < (0 : Int)))), (25, vi (ix v9 v12)), (24, .ptr 0 v12 0), (23, vi ((v12 : Nat) : Int)), (22, .own 0 0 ((List.replicate ((IntKind.u64.wrap ((IntKind.u64.wrap ((([(-1)] : List Int).length : Nat) : Int)) * (IntKind.u64.wrap ((a0.length : Nat) : Int)))).toNat) (0 : Int)).length)), (0, eS 2 eWindow a0), (3, .own 0 0 ((List.replicate ((IntKind.u64.wrap ((IntKind.u64.wrap ((([(-1)] : List Int).length : Nat) : Int)) * (IntKind.u64.wrap ((a0.length : Nat) : Int)))).toNat) (0 : Int)).length)), (12, vi ((v8 : Nat) : Int)), (4, vi ((v8 : Nat) : Int)), (5, vi v11), (15, eS 2 eWindow a0), (16, vi ((a0.length : Nat) : Int)), (17, vi ((v12 : Nat) : Int)), (7, .ptr 1 0 0), (6, vi ((v12 : Nat) : Int))] [some (.row 1 (List.map vi v9)), some (.row 2 [.agg [vi ((ix a0 v12).From), vi ((ix a0 v12).To)]]), none, none, none, none, none, none, none, none, none, none, none, none, none, none, none, none, none, none] (by kernel_rfl) ?_
      refine RegD.op (OpD.valk (g := ((decide ((ix v9 v12) < (0 : Int))) && (decide (((ix a0 v12).From) ≤ ((v8 : Nat) : Int)))) && (decide (((v8 : Nat) : Int) < ((ix a0 v12).To)))) (v := vi v11) _ _ (cz (IG 40 (.mov (.t 5)) 39 true) (by kernel_rfl)) rfl (by kernel_rfl) (fun hg => (.cons rfl .nil))) ?_
      refine RegD.op (OpD.valk (g := ((decide ((ix v9 v12) < (0 : Int))) && (decide (((ix a0 v12).From) ≤ ((v8 : Nat) : Int)))) && (decide (((v8 : Nat) : Int) < ((ix a0 v12).To)))) (v := vb (decide (v11 < (0 : Int)))) _ _ (cz (IG 41 (.bin .lss false (.t 40) (.c (.p (.int .i64 0)))) 39 true) (by kernel_rfl)) rfl (by kernel_rfl) (fun hg => (.cons hg (.cons rfl .nil)))) ?_
      refine RegD.op (OpD.valk (g := ((decide ((ix v9 v12) < (0 : Int))) && (decide (((ix a0 v12).From) ≤ ((v8 : Nat) : Int)))) && (decide (((v8 : Nat) : Int) < ((ix a0 v12).To)))) (v := vb (decide (v11 < (0 : Int)))) _ _ (cz (IG 42 (.mov (.t 41)) 39 true) (by kernel_rfl)) rfl (by kernel_rfl) (fun hg => (.cons hg .nil))) ?_
      refine RegD.op (OpD.valk (g := (((decide ((ix v9 v12) < (0 : Int))) && (decide (((ix a0 v12).From) ≤ ((v8 : Nat) : Int)))) && (decide (((v8 : Nat) : Int) < ((ix a0 v12).To)))) && !(decide (v11 < (0 : Int)))) (v := .ptr 1 0 1) _ _ (cz (IG 43 (.faddr 1 (.t 7)) 42 false) (by kernel_rfl)) rfl (by kernel_rfl) (fun hg => (.cons rfl .nil))) ?_
      refine RegD.op (OpD.valk (g := (((decide ((ix v9 v12) < (0 : Int))) && (decide (((ix a0 v12).From) ≤ ((v8 : Nat) : Int)))) && (decide (((v8 : Nat) : Int) < ((ix a0 v12).To)))) && !(decide (v11 < (0 : Int)))) (v := vi ((ix a0 v12).To)) _ _ (cz (IG 44 (.load false 1 (.t 43)) 42 false) (by kernel_rfl)) rfl (by kernel_rfl) (fun hg => (.cons hg .nil))) ?_
      refine RegD.op (OpD.valk (g := (((decide ((ix v9 v12) < (0 : Int))) && (decide (((ix a0 v12).From) ≤ ((v8 : Nat) : Int)))) && (decide (((v8 : Nat) : Int) < ((ix a0 v12).To)))) && !(decide (v11 < (0 : Int)))) (v := eS 2 eWindow a0) _ _ (cz (IG 45 (.mov (.t 0)) 42 false) (by kernel_rfl)) rfl (by kernel_rfl) (fun hg => (.cons rfl .nil))) ?_
      refine RegD.op (OpD.valk (g := (((decide ((ix v9 v12) < (0 : Int))) && (decide (((ix a0 v12).From) ≤ ((v8 : Nat) : Int)))) && (decide (((v8 : Nat) : Int) < ((ix a0 v12).To)))) && !(decide (v11 < (0 : Int)))) (v := vi v11) _ _ (cz (IG 46 (.mov (.t 5)) 42 false) (by kernel_rfl)) rfl (by kernel_rfl) (fun hg => (.cons rfl .nil))) ?_
      refine cK h fun c5 h => ?_
      refine RegD.op (OpD.valg (g := (((decide ((ix v9 v12) < (0 : Int))) && (decide (((ix a0 v12).From) ≤ ((v8 : Nat) : Int)))) && (decide (((v8 : Nat) : Int) < ((ix a0 v12).To)))) && !(decide (v11 < (0 : Int)))) (v := .fptr 2 (List.map eWindow a0) v11.toNat 0) _ _ (cz (IG 47 (.iaddr 2 (.t 45) (.t 46)) 42 false) (by kernel_rfl)) rfl (fun hg => (ok_iaddr_m (j := v11.toNat) rfl rfl (inB_to (gor c5 hg)) (inB_lt (gor c5 hg)))) (fun hg => (.cons hg (.cons hg .nil)))) ?_
      refine RegD.op (OpD.valk (g := (((decide ((ix v9 v12) < (0 : Int))) && (decide (((ix a0 v12).From) ≤ ((v8 : Nat) : Int)))) && (decide (((v8 : Nat) : Int) < ((ix a0 v12).To)))) && !(decide (v11 < (0 : Int)))) (v := .fptr 2 (List.map eWindow a0) v11.toNat 1) _ _ (cz (IG 48 (.faddr 1 (.t 47)) 42 false) (by kernel_rfl)) rfl (by kernel_rfl) (fun hg => (.cons hg .nil))) ?_
      refine cK h fun c6 h => ?_
      refine RegD.op (OpD.valg (g := (((decide ((ix v9 v12) < (0 : Int))) && (decide (((ix a0 v12).From) ≤ ((v8 : Nat) : Int)))) && (decide (((v8 : Nat) : Int) < ((ix a0 v12).To)))) && !(decide (v11 < (0 : Int)))) (v := vi ((ix a0 v11.toNat).To)) _ _ (cz (IG 49 (.load false 1 (.t 48)) 42 false) (by kernel_rfl)) rfl (fun hg => (ok_load_fm (v := vi ((ix a0 v11.toNat).To)) rfl (gor c6 hg) rfl)) (fun hg => (.cons hg .nil))) ?_
      refine RegD.op (OpD.valk (g := (((decide ((ix v9 v12) < (0 : Int))) && (decide (((ix a0 v12).From) ≤ ((v8 : Nat) : Int)))) && (decide (((v8 : Nat) : Int) < ((ix a0 v12).To)))) && !(decide (v11 < (0 : Int)))) (v := vb (decide (((ix a0 v12).To) < ((ix a0 v11.toNat).To)))) _ _ (cz (IG 50 (.bin .lss false (.t 44) (.t 49)) 42 false) (by kernel_rfl)) rfl (by kernel_rfl) (fun hg => (.cons hg (.cons hg .nil)))) ?_
      refine RegD.op (OpD.org (g := ((decide ((ix v9 v12) < (0 : Int))) && (decide (((ix a0 v12).From) ≤ ((v8 : Nat) : Int)))) && (decide (((v8 : Nat) : Int) < ((ix a0 v12).To)))) (cz (IG 51 (.pick (.t 42) (.c (.p (.bool true))) (.t 50)) 39 true) (by kernel_rfl)) rfl rfl rfl (fun hg => by first | exact hokO2 hg | exact hokO3 hg | exact hokO1 | exact hokO0 | (rw [hg]; simp) | simp_all)) ?_
      refine RegD.op (OpD.and (cz (I0 52 (.pick (.t 39) (.t 51) (.c (.p (.bool false))))) (by kernel_rfl)) rfl rfl (by first | exact hokA1 | exact hokA0 | simp)) ?_
      refine RegD.done rfl (by kernel_rfl) (S' := ⟨[(0, eS 2 eWindow a0), (3, .own 0 0 ((List.replicate ((IntKind.u64.wrap ((IntKind.u64.wrap ((([(-1)] : List Int).length : Nat) : Int)) * (IntKind.u64.wrap ((a0.length : Nat) : Int)))).toNat) (0 : Int)).length)), (12, vi ((v8 : Nat) : Int)), (4, vi ((v8 : Nat) : Int)), (5, vi v11), (15, eS 2 eWindow a0), (16, vi ((a0.length : Nat) : Int)), (17, vi ((v12 : Nat) : Int)), (6, vi ((v12 : Nat) : Int)), (52, vb ((((decide ((ix v9 v12) < (0 : Int))) && (decide (((ix a0 v12).From) ≤ ((v8 : Nat) : Int)))) && (decide (((v8 : Nat) : Int) < ((ix a0 v12).To)))) && ((decide (v11 < (0 : Int))) || (decide (((ix a0 v12).To) < ((ix a0 v11.toNat).To))))))], [some (.row 1 (List.map vi v9))]⟩) (sc [0] (by decide) (by kernel_rfl) (obRen_row vi_frz (by kernel_rfl) .nil) rfl rfl) ?_
      refine TriE.cond (b := (((decide ((ix v9 v12) < (0 : Int))) && (decide (((ix a0 v12).From) ≤ ((v8 : Nat) : Int)))) && (decide (((v8 : Nat) : Int) < ((ix a0 v12).To)))) && ((decide (v11 < (0 : Int))) || (decide (((ix a0 v12).To) < ((ix a0 v11.toNat).To))))) rfl (fun c7 => ?_) (fun c7 => ?_)
      · have h := cond_t h c7
        refine TriE.run [(0, eS 2 eWindow a0), (3, .own 0 0 ((List.replicate ((IntKind.u64.wrap ((IntKind.u64.wrap ((([(-1)] : List Int).length : Nat) : Int)) * (IntKind.u64.wrap ((a0.length : Nat) : Int)))).toNat) (0 : Int)).length)), (12, vi ((v8 : Nat) : Int)), (4, vi ((v8 : Nat) : Int)), (15, eS 2 eWindow a0), (16, vi ((a0.length : Nat) : Int)), (17, vi ((v12 : Nat) : Int)), (5, vi ((v12 : Nat) : Int))] [some (.row 1 (List.map vi v9))] (by kernel_rfl) ?_
        exact Vs.intro Sees.refl ⟨((v12 : Nat) : Int), rfl, h⟩
      have h := cond_f h c7
      refine TriE.skip ?_
      exact Vs.intro (sl (by kernel_rfl)) ⟨v11, rfl, h⟩
    have h := cond_f h c2
    refine TriE.exit ?_
    exact Vs.intro (sl (by kernel_rfl)) ⟨v11, rfl, h⟩
  have h := cond_f h c1
  refine TriE.exit ?_
  exact Vs.intro (sl (by kernel_rfl)) ⟨v9, rfl, h⟩
theorem diary_Most_ok (n : Nat) (a0 : List Window) (r : Int ⊕ (List Int)) (h : diary_Most n a0 = some r) : FnL Try.prog 36 [eS 2 eWindow a0] [] (match r with | .inl r => .tup [.emp, vi r] | .inr r => .tup [.own 0 0 ((List.replicate ((IntKind.u64.wrap ((IntKind.u64.wrap ((([(-1)] : List Int).length : Nat) : Int)) * (IntKind.u64.wrap (a0.length : Int)))).toNat) (0 : Int)).length), vi 0]) (match r with | .inl r => [] | .inr r => [some (.row 1 (List.map vi r))]) := by
 dsimp only [diary_Most] at h
 refine FnL.ofS (ts := [2, 3]) Try.call36 Try.func36 rfl rfl (Nat.le_of_ble_eq_true rfl) (by rcases r with r | r <;> exact Nat.le_of_ble_eq_true rfl) (fun j h => absurd h (Nat.not_lt_zero j)) ?_
 refine sk .a ?_
 refine q1 ?_
 refine sj ?_
 refine rk 1 (.k (.i 5 (eS 2 eWindow a0) .n)) ?_
 refine bK h fun y1 hy1 h => ?_
 refine jc 6 [5] (diary_CheckWindows_ok n a0 y1 hy1) ?_
 refine jk 1 (.d (.k (.i 4 (vi y1) .n))) ?_
 refine sk (.k2 (.i 8 (vb (y1 != (0 : Int))) .n)) ?_
 refine tc h (fun c1 h => ?_) (fun c1 h => ?_)
 ·refine sk (.i 2 .emp (.i 3 (vi y1) .n)) ?_
  refine q3 ?_
  have h := si h
  subst h
  exact DoneS.ret Sees.refl rfl rfl
 refine q2 ?_
 refine sj ?_
 refine rk 1 (.i 10 (eS 2 eWindow a0) .n) ?_
 refine bK h fun y2 hy2 h => ?_
 refine jco (.own 0 0 ((List.replicate ((IntKind.u64.wrap ((IntKind.u64.wrap ((([(-1)] : List Int).length : Nat) : Int)) * (IntKind.u64.wrap (a0.length : Int)))).toNat) (0 : Int)).length)) 11 [10] (diary_schedule_ok n a0 y2 hy2) [] rfl ObsRen.nil (.same (row_ren vi_frz _ _ _) .nil) rfl ?_
 refine jk 2 (.i 2 (.own 0 0 ((List.replicate ((IntKind.u64.wrap ((IntKind.u64.wrap ((([(-1)] : List Int).length : Nat) : Int)) * (IntKind.u64.wrap (a0.length : Int)))).toNat) (0 : Int)).length)) (.i 3 (vi 0) .n)) ?_
 refine q3 ?_
 have h := si h
 subst h
 exact DoneS.ret Sees.refl rfl rfl
theorem agraffebase_Ints_ok (n : Nat) (a0 : List Int) (a1 : List Int) (r : Bool) (h : agraffebase_Ints n a0 a1 = some r) : FnL Try.prog 41 [eS 1 vi a0, eS 1 vi a1] [] (vb r) [] := by
 dsimp only [agraffebase_Ints] at h
 refine fo [4] Try.call41 Try.func41 rfl ?_
 refine sk .a ?_
 refine q1 ?_
 refine sj ?_
 refine rk 1 (.k2 (.i 6 (eS 1 vi a0) .n)) ?_
 refine jo 7 (.len 0 6) (ok_len_m rfl) ?_
 refine rk 1 (.d (.k2 (.i 7 (vi (a0.length : Int)) (.i 8 (eS 1 vi a1) .n)))) ?_
 refine jo 9 (.len 0 8) (ok_len_m rfl) ?_
 refine jo 10 (.bin .neq false 7 9) (n_neq (i := a0.length) (j := a1.length) rfl rfl) ?_
 refine jf (.d2 (.k2 (.i 10 (vb (!decide (a0.length = a1.length))) .n))) ?_
 refine tc h (fun c1 h => ?_) (fun c1 h => ?_)
 ·refine sk (.i 4 (vb false) .n) ?_
  refine q3 ?_
  have h := si h
  subst h
  exact DoneS.ret Sees.refl rfl rfl
 refine q2 ?_
 refine TriE.seqK h (fun (_ : Unit) => St.mk [] []) ?_ ?_
 ·rintro ⟨⟩ h
  refine sk (.i 4 (vb true) .n) ?_
  refine q3 ?_
  have h := si h
  subst h
  exact DoneS.ret Sees.refl rfl rfl
 intro k1 h
 refine sk (.k2 (.i 5 (vi 0) .n)) ?_
 refine q4 ?_
 refine ts (.k2 (.i 5 (vi 0) .n)) ?_
 refine TriE.loopN h (fun (v1 : Nat) => St.mk [(0, eS 1 vi a0), (1, eS 1 vi a1), (5, vi v1)] []) rfl ?_
 clear h
 rintro back v1 h
 dsimp only [agraffebase_Ints_L1] at h
 refine q1 ?_
 refine sj ?_
 refine rk 2 (.k3 (.i 11 (vi v1) (.i 12 (eS 1 vi a0) .n))) ?_
 refine jo 13 (.len 0 12) (ok_len_m rfl) ?_
 refine jo 14 (.bin .lss false 11 13) (n_lss (i := v1) (j := a0.length) rfl rfl) ?_
 refine jf (.d2 (.k3 (.i 14 (vb (decide (v1 < a0.length))) .n))) ?_
 refine tc h (fun c2 h => ?_) (fun c2 h => ?_)
 ·refine q2 ?_
  refine q7 ?_
  refine q1 ?_
  refine ts (.k3 .n) ?_
  refine TriE.draw (by kernel_rfl) ?_
  refine dk 2 (.i 18 (vi v1) (.i 17 (eS 1 vi a0) .a)) ?_
  refine dp 19 (.iaddr 1 17 18) (ok_iaddr_m (j := v1) rfl rfl rfl c2) ?_
  refine dp 20 (.load false 1 19) (ok_load_fm (v := vi (ix a0 v1)) rfl c2 rfl) ?_
  refine dk 2 (.i 22 (vi v1) (.i 21 (eS 1 vi a1) .a)) ?_
  refine cK h fun c3 h => ?_
  refine dp 23 (.iaddr 1 21 22) (ok_iaddr_m (j := v1) rfl rfl rfl c3) ?_
  refine dp 24 (.load false 1 23) (ok_load_fm (v := vi (ix a1 v1)) rfl c3 rfl) ?_
  refine dk 1 (.i 25 (vb ((ix a0 v1) != (ix a1 v1))) .a) ?_
  refine dfi (.d4 (.d4 (.d (.k3 (.i 25 (vb ((ix a0 v1) != (ix a1 v1))) .n))))) [] ObRen.nil ?_
  refine tc h (fun c4 h => ?_) (fun c4 h => ?_)
  ·refine sk (.i 4 (vb false) .n) ?_
   refine q3 ?_
   have h := si h
   subst h
   exact DoneS.ret Sees.refl rfl rfl
  refine q2 ?_
  refine q6 ?_
  refine rk 1 (.k2 (.i 15 (vi v1) .n)) ?_
  refine cK h fun c5 h => ?_
  refine jo 16 (.bin .add false 15 (ki 1)) (r_addn (i := v1) (j := 1) rfl rfl c5) ?_
  refine jk 1 (.d (.k2 (.i 5 (vi ((v1 + 1 : Nat) : Int)) .n))) ?_
  exact Vs.intro sy ⟨(v1 + 1), rfl, h⟩
 refine q5 ?_
 exact Vs.intro sy ⟨(), rfl, h⟩
theorem agraffebase_Ints_2_ok (n : Nat) (a0 : List Int) (a1 : Nat) (a2 : Nat) (a3 : List Int) (r : Bool) (h : agraffebase_Ints_2 n a0 a1 a2 a3 = some r) : FnL Try.prog 41 [.own 0 a1 a2, eS 1 vi a3] [some (.row 1 (List.map vi a0))] (vb r) [some (.row 1 (List.map vi a0))] := by
 dsimp only [agraffebase_Ints_2] at h
 refine fob [4] Try.call41 Try.func41 rfl (.cons rfl .nil) ?_
 refine sk .a ?_
 refine q1 ?_
 refine sj ?_
 refine rk 3 (.k2 (.i 7 (vi a2) (.i 8 (eS 1 vi a3) .n))) ?_
 refine jo 9 (.len 0 8) (ok_len_m rfl) ?_
 refine jo 10 (.bin .neq false 7 9) (n_neq (i := a2) (j := a3.length) rfl rfl) ?_
 refine jf (.d2 (.k2 (.i 10 (vb (!decide (a2 = a3.length))) .n))) ?_
 refine tc h (fun c1 h => ?_) (fun c1 h => ?_)
 ·refine sk (.i 4 (vb false) .n) ?_
  refine q3 ?_
  have h := si h
  subst h
  exact DoneS.ret Sees.refl rfl rfl
 refine q2 ?_
 refine TriE.seqK h (fun (_ : Unit) => St.mk [] [some (.row 1 (List.map vi a0))]) ?_ ?_
 ·rintro ⟨⟩ h
  refine sk (.i 4 (vb true) .n) ?_
  refine q3 ?_
  have h := si h
  subst h
  exact DoneS.ret Sees.refl rfl rfl
 intro k1 h
 refine sk (.k2 (.i 5 (vi 0) .n)) ?_
 refine q4 ?_
 refine ts (.k2 (.i 5 (vi 0) .n)) ?_
 refine TriE.loopN h (fun (v1 : Nat) => St.mk [(0, .own 0 a1 a2), (1, eS 1 vi a3), (5, vi v1)] [some (.row 1 (List.map vi a0))]) rfl ?_
 clear h
 rintro back v1 h
 dsimp only [agraffebase_Ints_2_L1] at h
 refine q1 ?_
 refine sj ?_
 refine rk 3 (.k3 (.i 11 (vi v1) (.i 13 (vi a2) .n))) ?_
 refine jo 14 (.bin .lss false 11 13) (n_lss (i := v1) (j := a2) rfl rfl) ?_
 refine jf (.d (.k3 (.i 14 (vb (decide (v1 < a2))) .n))) ?_
 refine tc h (fun c2 h => ?_) (fun c2 h => ?_)
 ·refine q2 ?_
  refine q7 ?_
  refine q1 ?_
  refine ts (.k3 .n) ?_
  refine TriE.draw (by kernel_rfl) ?_
  refine dk 2 (.i 18 (vi v1) (.i 17 (.own 0 a1 a2) .a)) ?_
  refine dp 19 (.iaddr 1 17 18) (ok_iaddr_o (j := v1) rfl rfl rfl rfl c2) ?_
  refine cK h fun c3 h => ?_
  refine dp 20 (.load false 1 19) (ok_load_pm (l := a0) (e := vi) (v := vi (ix a0 (a1 + v1))) rfl rfl c3 rfl) ?_
  refine dk 2 (.i 22 (vi v1) (.i 21 (eS 1 vi a3) .a)) ?_
  refine cK h fun c4 h => ?_
  refine dp 23 (.iaddr 1 21 22) (ok_iaddr_m (j := v1) rfl rfl rfl c4) ?_
  refine dp 24 (.load false 1 23) (ok_load_fm (v := vi (ix a3 v1)) rfl c4 rfl) ?_
  refine dk 1 (.i 25 (vb ((ix a0 (a1 + v1)) != (ix a3 v1))) .a) ?_
  refine dfi (.d4 (.d4 (.d (.k3 (.i 25 (vb ((ix a0 (a1 + v1)) != (ix a3 v1))) .n))))) [0] (obRen_row vi_frz rfl .nil) ?_
  refine tc h (fun c5 h => ?_) (fun c5 h => ?_)
  ·refine sk (.i 4 (vb false) .n) ?_
   refine q3 ?_
   have h := si h
   subst h
   exact DoneS.ret Sees.refl rfl rfl
  refine q2 ?_
  refine q6 ?_
  refine rk 1 (.k2 (.i 15 (vi v1) .n)) ?_
  refine cK h fun c6 h => ?_
  refine jo 16 (.bin .add false 15 (ki 1)) (r_addn (i := v1) (j := 1) rfl rfl c6) ?_
  refine jk 1 (.d (.k2 (.i 5 (vi ((v1 + 1 : Nat) : Int)) .n))) ?_
  exact Vs.intro sy ⟨(v1 + 1), rfl, h⟩
 refine q5 ?_
 exact Vs.intro sy ⟨(), rfl, h⟩
set_option maxHeartbeats 1000000 in
theorem agraffelaw09_awake_ok (n : Nat)  (r : Bool) (h : agraffelaw09_awake n  = some r) : FnL Try.prog 13 [] [] (vb r) [] := by
 dsimp only [agraffelaw09_awake] at h
 refine fo [0] Try.call13 Try.func13 rfl ?_
 refine sk .n ?_
 refine sj ?_
 refine bK h fun y1 hy1 h => ?_
 refine jc 10 [] (agraffelaw09_Town_ok n y1 hy1) ?_
 refine bK h fun y2 hy2 h => ?_
 refine jc 11 [10, (.c (.p (.string ⟨#[115, 104, 111, 112]⟩))), (ki 100)] (diary_Distances_ok n (Diary.mk ([([115, 104, 111, 112] : Str), ([104, 97, 108, 108] : Str), ([104, 111, 109, 101] : Str)] : List Str) ([([97, 110, 110] : Str), ([98, 111, 98] : Str)] : List Str) ([(Road.mk ([115, 104, 111, 112] : Str) ([104, 97, 108, 108] : Str) 30 200), (Road.mk ([104, 97, 108, 108] : Str) ([104, 111, 109, 101] : Str) 20 100), (Road.mk ([115, 104, 111, 112] : Str) ([104, 111, 109, 101] : Str) 60 150)] : List Road) ([(Grand.mk ([103] : Str) ([115, 104, 111, 112] : Str) 150), (Grand.mk ([117] : Str) ([104, 111, 109, 101] : Str) 100)] : List Grand) 10 300) ([115, 104, 111, 112] : Str) 100 y2 hy2) ?_
 refine jk 5 (.i 1 (eS 1 vi y2.2) (.i 2 (vi y2.1) .n)) ?_
 refine sj ?_
 refine bK h fun y3 hy3 h => ?_
 refine jc 15 [] (agraffelaw09_Town_ok n y3 hy3) ?_
 refine bK h fun y4 hy4 h => ?_
 refine jc 16 [] (agraffelaw09_Evening_ok n y4 hy4) ?_
 refine bK h fun y5 hy5 h => ?_
 refine jc 17 [15, 16] (diary_Accept_ok n (Diary.mk ([([115, 104, 111, 112] : Str), ([104, 97, 108, 108] : Str), ([104, 111, 109, 101] : Str)] : List Str) ([([97, 110, 110] : Str), ([98, 111, 98] : Str)] : List Str) ([(Road.mk ([115, 104, 111, 112] : Str) ([104, 97, 108, 108] : Str) 30 200), (Road.mk ([104, 97, 108, 108] : Str) ([104, 111, 109, 101] : Str) 20 100), (Road.mk ([115, 104, 111, 112] : Str) ([104, 111, 109, 101] : Str) 60 150)] : List Road) ([(Grand.mk ([103] : Str) ([115, 104, 111, 112] : Str) 150), (Grand.mk ([117] : Str) ([104, 111, 109, 101] : Str) 100)] : List Grand) 10 300) ([(Item.mk 1 0 40 ([103] : Str) ([104, 97, 108, 108] : Str) ([] : Str) 0), (Item.mk 0 50 110 ([103] : Str) ([104, 97, 108, 108] : Str) ([97, 110, 110] : Str) 0), (Item.mk 2 200 300 ([103] : Str) ([104, 97, 108, 108] : Str) ([] : Str) 0)] : List Item) y5 hy5) ?_
 refine jk 5 (.d3 (.k2 (.i 3 (vi y5.2) (.i 4 (vi y5.1) .n)))) ?_
 refine sj ?_
 refine bK h fun y6 hy6 h => ?_
 refine jc 21 [] (agraffelaw09_Town_ok n y6 hy6) ?_
 refine bK h fun y7 hy7 h => ?_
 refine jc 22 [] (agraffelaw09_Evening_ok n y7 hy7) ?_
 refine rk 1 (.d2 (.k4 (.i 21 (.agg [eS 1 vt ([([115, 104, 111, 112] : Str), ([104, 97, 108, 108] : Str), ([104, 111, 109, 101] : Str)] : List Str), eS 1 vt ([([97, 110, 110] : Str), ([98, 111, 98] : Str)] : List Str), eS 4 eRoad ([(Road.mk ([115, 104, 111, 112] : Str) ([104, 97, 108, 108] : Str) 30 200), (Road.mk ([104, 97, 108, 108] : Str) ([104, 111, 109, 101] : Str) 20 100), (Road.mk ([115, 104, 111, 112] : Str) ([104, 111, 109, 101] : Str) 60 150)] : List Road), eS 3 eGrand ([(Grand.mk ([103] : Str) ([115, 104, 111, 112] : Str) 150), (Grand.mk ([117] : Str) ([104, 111, 109, 101] : Str) 100)] : List Grand), vi 10, vi 300]) (.i 22 (eS 7 eItem ([(Item.mk 1 0 40 ([103] : Str) ([104, 97, 108, 108] : Str) ([] : Str) 0), (Item.mk 0 50 110 ([103] : Str) ([104, 97, 108, 108] : Str) ([97, 110, 110] : Str) 0), (Item.mk 2 200 300 ([103] : Str) ([104, 97, 108, 108] : Str) ([] : Str) 0)] : List Item)) (.i 23 (.agg [vi 0, vi 120, vi 180, vt ([117] : Str), vt ([104, 111, 109, 101] : Str), vt ([97, 110, 110] : Str), vi 0]) .n))))) ?_
 refine bK h fun y8 hy8 h => ?_
 refine jc 24 [21, 22, 23] (diary_FreeFrom_ok n (Diary.mk ([([115, 104, 111, 112] : Str), ([104, 97, 108, 108] : Str), ([104, 111, 109, 101] : Str)] : List Str) ([([97, 110, 110] : Str), ([98, 111, 98] : Str)] : List Str) ([(Road.mk ([115, 104, 111, 112] : Str) ([104, 97, 108, 108] : Str) 30 200), (Road.mk ([104, 97, 108, 108] : Str) ([104, 111, 109, 101] : Str) 20 100), (Road.mk ([115, 104, 111, 112] : Str) ([104, 111, 109, 101] : Str) 60 150)] : List Road) ([(Grand.mk ([103] : Str) ([115, 104, 111, 112] : Str) 150), (Grand.mk ([117] : Str) ([104, 111, 109, 101] : Str) 100)] : List Grand) 10 300) ([(Item.mk 1 0 40 ([103] : Str) ([104, 97, 108, 108] : Str) ([] : Str) 0), (Item.mk 0 50 110 ([103] : Str) ([104, 97, 108, 108] : Str) ([97, 110, 110] : Str) 0), (Item.mk 2 200 300 ([103] : Str) ([104, 97, 108, 108] : Str) ([] : Str) 0)] : List Item) (Item.mk 0 120 180 ([117] : Str) ([104, 111, 109, 101] : Str) ([97, 110, 110] : Str) 0) y8 hy8) ?_
 refine jk 5 (.d (.k4 (.i 5 (vi y8.2) (.i 6 (vi y8.1) .n)))) ?_
 refine TriE.seqK2 h (fun (v12 : Int) => St.mk [(1, eS 1 vi y2.2), (2, vi y2.1), (3, vi y5.2), (4, vi y5.1), (5, vi y8.2), (6, vi y8.1), (7, .emp), (8, vi v12)] []) (fun (v17 : (List Int)) => St.mk [(1, eS 1 vi y2.2), (2, vi y2.1), (3, vi y5.2), (4, vi y5.1), (5, vi y8.2), (6, vi y8.1), (7, .own 0 0 ((List.replicate ((IntKind.u64.wrap ((IntKind.u64.wrap ((([(-1)] : List Int).length : Nat) : Int)) * (IntKind.u64.wrap ((([(Window.mk 0 2), (Window.mk 0 2), (Window.mk 1 3), (Window.mk 2 3)] : List Window).length : Nat) : Int)))).toNat) (0 : Int)).length)), (8, vi 0)] [some (.row 1 (List.map vi v17))]) ?_ ?_ ?_
 ·rintro v12 h
  refine TriE.seqK h (fun (v16 : Bool) => St.mk [(0, vb v16)] []) ?_ ?_
  ·rintro v16 h
   refine q3 ?_
   have h := si h
   subst h
   exact DoneS.ret Sees.refl rfl rfl
  intro k2 h
  refine q6 ?_
  refine rk 3 (.k (.d (.k4 (.k2 (.i 38 (vb (y2.1 == (0 : Int))) .n))))) ?_
  refine gj (eS 1 vi y2.2) 39 (.mov 1) 38 true rfl ?_
  rcases Bool.eq_false_or_eq_true ((y2.1 == (0 : Int))) with c1 | c1
  ·have h := cond_t h c1
   refine RegJ.op (Op1.effk (v := .own 0 0 3) (ob' := [some (.row 1 [vi 0, vi 30, vi 50])]) _ _ (cy (IG 40 (.bslice 1 (.p (.int .i64 0)) 3 [(0, (ki 0)), (1, (ki 30)), (2, (ki 50))]) 38 true)) (congrArg some c1) (by kernel_rfl) (.cons rfl (.cons rfl (.cons rfl .nil)))) ?_
   refine RegJ.sees (Sees.freeze 0 (fr' := [(1, eS 1 vi y2.2), (3, vi y5.2), (4, vi y5.1), (5, vi y8.2), (6, vi y8.1), (7, .emp), (8, vi v12), (38, vb (y2.1 == (0 : Int))), (39, .cond (y2.1 == (0 : Int)) (eS 1 vi y2.2)), (40, eS 1 vi ([0, 30, 50] : List Int))]) (ob' := [none]) rfl (frzs_cons rfl (frzs_cons rfl (frzs_cons rfl frzs_nil))) (.cons (.refl _) (.cons (.refl _) (.cons (.refl _) (.cons (.refl _) (.cons (.refl _) (.cons (.refl _) (.cons (.refl _) (.cons (.refl _) (.cons (.refl _) (.cons (.own rfl (Nat.le_of_ble_eq_true rfl)) .nil)))))))))) rfl) ?_
   refine bK h fun y13 hy13 h => ?_
   refine RegJ.op (Op1.call (y' := vb y13) (obx := []) (oby := []) (ob2 := [none]) _ _ (cy (IG 41 (.call 41 [39, 40]) 38 true)) (congrArg some c1) (agraffebase_Ints_ok n y2.2 ([0, 30, 50] : List Int) y13 hy13) [] (by kernel_rfl) (.cons rfl (.cons c1 (.cons rfl .nil))) (by kernel_rfl) (by kernel_rfl) ObsRen.nil (by kernel_rfl) ObsRen.nil (by kernel_rfl)) ?_
   refine pa 42 38 41 rfl rfl ?_
   refine rk 1 (.d3 (.k4 (.k2 (.i 43 (vb ((y2.1 == (0 : Int)) && y13)) .n)))) ?_
   refine gj (vi y5.1) 44 (.mov 4) 43 true rfl ?_
   refine gk (vb (y5.1 == (0 : Int))) 45 (.bin .eql false 44 (ki 0)) 43 true rfl (fun hg => (.cons hg (.cons rfl .nil))) ?_
   refine pa 46 43 45 rfl rfl ?_
   refine rk 1 (.d3 (.k (.d (.k4 (.i 47 (vb (((y2.1 == (0 : Int)) && y13) && (y5.1 == (0 : Int)))) .n))))) ?_
   refine gj (vi y5.2) 48 (.mov 3) 47 true rfl ?_
   refine gk (vb (y5.2 == ((-1) : Int))) 49 (.bin .eql false 48 (ki (-1))) 47 true rfl (fun hg => (.cons hg (.cons rfl .nil))) ?_
   refine pa 50 47 49 rfl rfl ?_
   refine rk 1 (.d4 (.k4 (.i 51 (vb ((((y2.1 == (0 : Int)) && y13) && (y5.1 == (0 : Int))) && (y5.2 == ((-1) : Int)))) .n))) ?_
   refine gj (vi y8.1) 52 (.mov 6) 51 true rfl ?_
   refine gk (vb (y8.1 == (0 : Int))) 53 (.bin .eql false 52 (ki 0)) 51 true rfl (fun hg => (.cons hg (.cons rfl .nil))) ?_
   refine pa 54 51 53 rfl rfl ?_
   refine rk 1 (.d3 (.k (.d (.k2 (.i 55 (vb (((((y2.1 == (0 : Int)) && y13) && (y5.1 == (0 : Int))) && (y5.2 == ((-1) : Int))) && (y8.1 == (0 : Int)))) .n))))) ?_
   refine gj (vi y8.2) 56 (.mov 5) 55 true rfl ?_
   refine gk (vb (y8.2 == (130 : Int))) 57 (.bin .eql false 56 (ki 130)) 55 true rfl (fun hg => (.cons hg (.cons rfl .nil))) ?_
   refine pa 58 55 57 rfl rfl ?_
   refine rk 1 (.d4 (.k2 (.i 59 (vb ((((((y2.1 == (0 : Int)) && y13) && (y5.1 == (0 : Int))) && (y5.2 == ((-1) : Int))) && (y8.1 == (0 : Int))) && (y8.2 == (130 : Int)))) .n))) ?_
   refine gj (vi v12) 60 (.mov 8) 59 true rfl ?_
   refine gk (vb (v12 == (0 : Int))) 61 (.bin .eql false 60 (ki 0)) 59 true rfl (fun hg => (.cons hg (.cons rfl .nil))) ?_
   refine pa 62 59 61 rfl rfl ?_
   refine rk 1 (.d3 (.k (.i 63 (vb (((((((y2.1 == (0 : Int)) && y13) && (y5.1 == (0 : Int))) && (y5.2 == ((-1) : Int))) && (y8.1 == (0 : Int))) && (y8.2 == (130 : Int))) && (v12 == (0 : Int)))) .n))) ?_
   refine gj .emp 64 (.mov 7) 63 true rfl ?_
   rcases Bool.eq_false_or_eq_true (((((((y2.1 == (0 : Int)) && y13) && (y5.1 == (0 : Int))) && (y5.2 == ((-1) : Int))) && (y8.1 == (0 : Int))) && (y8.2 == (130 : Int))) && (v12 == (0 : Int))) with c2 | c2
   ·have h := cond_t h c2
    refine RegJ.op (Op1.effk (v := .own 1 0 4) (ob' := [none, some (.row 1 [vi 0, vi 1, vi 2, vi (-1)])]) _ _ (cz (IG 65 (.bslice 1 (.p (.int .i64 0)) 4 [(0, (ki 0)), (1, (ki 1)), (2, (ki 2)), (3, (ki (-1)))]) 63 true) (by kernel_rfl)) (congrArg some c2) (by kernel_rfl) (.cons rfl (.cons rfl (.cons rfl (.cons rfl .nil))))) ?_
    refine RegJ.sees (Sees.freeze 1 (fr' := [(7, .emp), (63, vb (((((((y2.1 == (0 : Int)) && y13) && (y5.1 == (0 : Int))) && (y5.2 == ((-1) : Int))) && (y8.1 == (0 : Int))) && (y8.2 == (130 : Int))) && (v12 == (0 : Int)))), (64, .cond (((((((y2.1 == (0 : Int)) && y13) && (y5.1 == (0 : Int))) && (y5.2 == ((-1) : Int))) && (y8.1 == (0 : Int))) && (y8.2 == (130 : Int))) && (v12 == (0 : Int))) (.emp)), (65, eS 1 vi ([0, 1, 2, (-1)] : List Int))]) (ob' := [none, none]) rfl (frzs_cons rfl (frzs_cons rfl (frzs_cons rfl (frzs_cons rfl frzs_nil)))) (.cons (.refl _) (.cons (.refl _) (.cons (.refl _) (.cons (.own rfl (Nat.le_of_ble_eq_true rfl)) .nil)))) rfl) ?_
    refine bK h fun y14 hy14 h => ?_
    refine RegJ.op (Op1.call (y' := vb y14) (obx := []) (oby := []) (ob2 := [none, none]) _ _ (cy (IG 66 (.call 41 [64, 65]) 63 true)) (congrArg some c2) (FnL.co (.cons .sl (.cons .same .nil)) (agraffebase_Ints_ok n ([] : List Int) ([0, 1, 2, (-1)] : List Int) y14 hy14)) [] (by kernel_rfl) (.cons rfl (.cons c2 (.cons rfl .nil))) (by kernel_rfl) (by kernel_rfl) ObsRen.nil (by kernel_rfl) ObsRen.nil (by kernel_rfl)) ?_
    refine pa 67 63 66 rfl rfl ?_
    refine jk 1 (.i 0 (vb ((((((((y2.1 == (0 : Int)) && y13) && (y5.1 == (0 : Int))) && (y5.2 == ((-1) : Int))) && (y8.1 == (0 : Int))) && (y8.2 == (130 : Int))) && (v12 == (0 : Int))) && y14)) .n) ?_
    exact Vs.intro (sc [] (by decide) (by kernel_rfl) ObRen.nil rfl rfl) ⟨((((((((y2.1 == (0 : Int)) && y13) && (y5.1 == (0 : Int))) && (y5.2 == ((-1) : Int))) && (y8.1 == (0 : Int))) && (y8.2 == (130 : Int))) && (v12 == (0 : Int))) && y14), rfl, h⟩
   have h := cond_f h c2
   refine RegJ.op (Op1.skipc (g := ((((((y2.1 == (0 : Int)) && y13) && (y5.1 == (0 : Int))) && (y5.2 == ((-1) : Int))) && (y8.1 == (0 : Int))) && (y8.2 == (130 : Int))) && (v12 == (0 : Int))) (v := vb false) (by kernel_rfl : compAt _ _ _ _ = some ⟨(some 65), .bslice 1 (.p (.int .i64 0)) 4 [(0, (ki 0)), (1, (ki 1)), (2, (ki 2)), (3, (ki (-1)))], (some (63, true)), [(ki 0), (ki 1), (ki 2), (ki (-1))], 0⟩) rfl c2) ?_
   refine RegJ.op (Op1.skipc (g := ((((((y2.1 == (0 : Int)) && y13) && (y5.1 == (0 : Int))) && (y5.2 == ((-1) : Int))) && (y8.1 == (0 : Int))) && (y8.2 == (130 : Int))) && (v12 == (0 : Int))) (v := vb false) (by kernel_rfl : compAt _ _ _ _ = some ⟨(some 66), .call 41 [64, 65], (some (63, true)), [(.c (.fn (.func 41) [] [])), 64, 65], 2⟩) rfl c2) ?_
   refine pa 67 63 66 rfl rfl ?_
   refine jq 1 [(0, vb ((((((((y2.1 == (0 : Int)) && y13) && (y5.1 == (0 : Int))) && (y5.2 == ((-1) : Int))) && (y8.1 == (0 : Int))) && (y8.2 == (130 : Int))) && (v12 == (0 : Int))) && false))] [none] ?_
   exact Vs.intro (sc [] (by decide) (by kernel_rfl) ObRen.nil rfl rfl) ⟨((((((((y2.1 == (0 : Int)) && y13) && (y5.1 == (0 : Int))) && (y5.2 == ((-1) : Int))) && (y8.1 == (0 : Int))) && (y8.2 == (130 : Int))) && (v12 == (0 : Int))) && false), rfl, h⟩
  have h := cond_f h c1
  refine RegJ.op (Op1.skipc (g := (y2.1 == (0 : Int))) (v := vb false) (by kernel_rfl : compAt _ _ _ _ = some ⟨(some 40), .bslice 1 (.p (.int .i64 0)) 3 [(0, (ki 0)), (1, (ki 30)), (2, (ki 50))], (some (38, true)), [(ki 0), (ki 30), (ki 50)], 0⟩) rfl c1) ?_
  refine RegJ.op (Op1.skipc (g := (y2.1 == (0 : Int))) (v := vb false) (by kernel_rfl : compAt _ _ _ _ = some ⟨(some 41), .call 41 [39, 40], (some (38, true)), [(.c (.fn (.func 41) [] [])), 39, 40], 2⟩) rfl c1) ?_
  refine pa 42 38 41 rfl rfl ?_
  refine rn 1 [(3, vi y5.2), (4, vi y5.1), (5, vi y8.2), (6, vi y8.1), (7, .emp), (8, vi v12), (43, vb ((y2.1 == (0 : Int)) && false))] [] ?_
  refine gj (vi y5.1) 44 (.mov 4) 43 true rfl ?_
  refine gk (vb (y5.1 == (0 : Int))) 45 (.bin .eql false 44 (ki 0)) 43 true rfl (fun hg => (.cons hg (.cons rfl .nil))) ?_
  refine pa 46 43 45 rfl rfl ?_
  refine rk 1 (.d3 (.k (.d (.k4 (.i 47 (vb (((y2.1 == (0 : Int)) && false) && (y5.1 == (0 : Int)))) .n))))) ?_
  refine gj (vi y5.2) 48 (.mov 3) 47 true rfl ?_
  refine gk (vb (y5.2 == ((-1) : Int))) 49 (.bin .eql false 48 (ki (-1))) 47 true rfl (fun hg => (.cons hg (.cons rfl .nil))) ?_
  refine pa 50 47 49 rfl rfl ?_
  refine rk 1 (.d4 (.k4 (.i 51 (vb ((((y2.1 == (0 : Int)) && false) && (y5.1 == (0 : Int))) && (y5.2 == ((-1) : Int)))) .n))) ?_
  refine gj (vi y8.1) 52 (.mov 6) 51 true rfl ?_
  refine gk (vb (y8.1 == (0 : Int))) 53 (.bin .eql false 52 (ki 0)) 51 true rfl (fun hg => (.cons hg (.cons rfl .nil))) ?_
  refine pa 54 51 53 rfl rfl ?_
  refine rk 1 (.d3 (.k (.d (.k2 (.i 55 (vb (((((y2.1 == (0 : Int)) && false) && (y5.1 == (0 : Int))) && (y5.2 == ((-1) : Int))) && (y8.1 == (0 : Int)))) .n))))) ?_
  refine gj (vi y8.2) 56 (.mov 5) 55 true rfl ?_
  refine gk (vb (y8.2 == (130 : Int))) 57 (.bin .eql false 56 (ki 130)) 55 true rfl (fun hg => (.cons hg (.cons rfl .nil))) ?_
  refine pa 58 55 57 rfl rfl ?_
  refine rk 1 (.d4 (.k2 (.i 59 (vb ((((((y2.1 == (0 : Int)) && false) && (y5.1 == (0 : Int))) && (y5.2 == ((-1) : Int))) && (y8.1 == (0 : Int))) && (y8.2 == (130 : Int)))) .n))) ?_
  refine gj (vi v12) 60 (.mov 8) 59 true rfl ?_
  refine gk (vb (v12 == (0 : Int))) 61 (.bin .eql false 60 (ki 0)) 59 true rfl (fun hg => (.cons hg (.cons rfl .nil))) ?_
  refine pa 62 59 61 rfl rfl ?_
  refine rk 1 (.d3 (.k (.i 63 (vb (((((((y2.1 == (0 : Int)) && false) && (y5.1 == (0 : Int))) && (y5.2 == ((-1) : Int))) && (y8.1 == (0 : Int))) && (y8.2 == (130 : Int))) && (v12 == (0 : Int)))) .n))) ?_
  refine gj .emp 64 (.mov 7) 63 true rfl ?_
  rcases Bool.eq_false_or_eq_true (((((((y2.1 == (0 : Int)) && false) && (y5.1 == (0 : Int))) && (y5.2 == ((-1) : Int))) && (y8.1 == (0 : Int))) && (y8.2 == (130 : Int))) && (v12 == (0 : Int))) with c3 | c3
  ·have h := cond_t h c3
   refine RegJ.op (Op1.effk (v := .own 0 0 4) (ob' := [some (.row 1 [vi 0, vi 1, vi 2, vi (-1)])]) _ _ (cz (IG 65 (.bslice 1 (.p (.int .i64 0)) 4 [(0, (ki 0)), (1, (ki 1)), (2, (ki 2)), (3, (ki (-1)))]) 63 true) (by kernel_rfl)) (congrArg some c3) (by kernel_rfl) (.cons rfl (.cons rfl (.cons rfl (.cons rfl .nil))))) ?_
   refine RegJ.sees (Sees.freeze 0 (fr' := [(7, .emp), (63, vb (((((((y2.1 == (0 : Int)) && false) && (y5.1 == (0 : Int))) && (y5.2 == ((-1) : Int))) && (y8.1 == (0 : Int))) && (y8.2 == (130 : Int))) && (v12 == (0 : Int)))), (64, .cond (((((((y2.1 == (0 : Int)) && false) && (y5.1 == (0 : Int))) && (y5.2 == ((-1) : Int))) && (y8.1 == (0 : Int))) && (y8.2 == (130 : Int))) && (v12 == (0 : Int))) (.emp)), (65, eS 1 vi ([0, 1, 2, (-1)] : List Int))]) (ob' := [none]) rfl (frzs_cons rfl (frzs_cons rfl (frzs_cons rfl (frzs_cons rfl frzs_nil)))) (.cons (.refl _) (.cons (.refl _) (.cons (.refl _) (.cons (.own rfl (Nat.le_of_ble_eq_true rfl)) .nil)))) rfl) ?_
   refine bK h fun y15 hy15 h => ?_
   refine RegJ.op (Op1.call (y' := vb y15) (obx := []) (oby := []) (ob2 := [none]) _ _ (cy (IG 66 (.call 41 [64, 65]) 63 true)) (congrArg some c3) (FnL.co (.cons .sl (.cons .same .nil)) (agraffebase_Ints_ok n ([] : List Int) ([0, 1, 2, (-1)] : List Int) y15 hy15)) [] (by kernel_rfl) (.cons rfl (.cons c3 (.cons rfl .nil))) (by kernel_rfl) (by kernel_rfl) ObsRen.nil (by kernel_rfl) ObsRen.nil (by kernel_rfl)) ?_
   refine pa 67 63 66 rfl rfl ?_
   refine jk 1 (.i 0 (vb ((((((((y2.1 == (0 : Int)) && false) && (y5.1 == (0 : Int))) && (y5.2 == ((-1) : Int))) && (y8.1 == (0 : Int))) && (y8.2 == (130 : Int))) && (v12 == (0 : Int))) && y15)) .n) ?_
   exact Vs.intro (sc [] (by decide) (by kernel_rfl) ObRen.nil rfl rfl) ⟨((((((((y2.1 == (0 : Int)) && false) && (y5.1 == (0 : Int))) && (y5.2 == ((-1) : Int))) && (y8.1 == (0 : Int))) && (y8.2 == (130 : Int))) && (v12 == (0 : Int))) && y15), rfl, h⟩
  have h := cond_f h c3
  refine RegJ.op (Op1.skipc (g := ((((((y2.1 == (0 : Int)) && false) && (y5.1 == (0 : Int))) && (y5.2 == ((-1) : Int))) && (y8.1 == (0 : Int))) && (y8.2 == (130 : Int))) && (v12 == (0 : Int))) (v := vb false) (by kernel_rfl : compAt _ _ _ _ = some ⟨(some 65), .bslice 1 (.p (.int .i64 0)) 4 [(0, (ki 0)), (1, (ki 1)), (2, (ki 2)), (3, (ki (-1)))], (some (63, true)), [(ki 0), (ki 1), (ki 2), (ki (-1))], 0⟩) rfl c3) ?_
  refine RegJ.op (Op1.skipc (g := ((((((y2.1 == (0 : Int)) && false) && (y5.1 == (0 : Int))) && (y5.2 == ((-1) : Int))) && (y8.1 == (0 : Int))) && (y8.2 == (130 : Int))) && (v12 == (0 : Int))) (v := vb false) (by kernel_rfl : compAt _ _ _ _ = some ⟨(some 66), .call 41 [64, 65], (some (63, true)), [(.c (.fn (.func 41) [] [])), 64, 65], 2⟩) rfl c3) ?_
  refine pa 67 63 66 rfl rfl ?_
  refine jq 1 [(0, vb ((((((((y2.1 == (0 : Int)) && false) && (y5.1 == (0 : Int))) && (y5.2 == ((-1) : Int))) && (y8.1 == (0 : Int))) && (y8.2 == (130 : Int))) && (v12 == (0 : Int))) && false))] [] ?_
  exact Vs.intro Sees.refl ⟨((((((((y2.1 == (0 : Int)) && false) && (y5.1 == (0 : Int))) && (y5.2 == ((-1) : Int))) && (y8.1 == (0 : Int))) && (y8.2 == (130 : Int))) && (v12 == (0 : Int))) && false), rfl, h⟩
 ·rintro v17 h
  refine TriE.seqK h (fun (v21 : Bool) => St.mk [(0, vb v21)] []) ?_ ?_
  ·rintro v21 h
   refine q3 ?_
   have h := si h
   subst h
   exact DoneS.ret Sees.refl rfl rfl
  intro k4 h
  refine q6 ?_
  refine rk 3 (.k (.d (.k4 (.k2 (.i 38 (vb (y2.1 == (0 : Int))) .n))))) ?_
  refine gj (eS 1 vi y2.2) 39 (.mov 1) 38 true rfl ?_
  rcases Bool.eq_false_or_eq_true ((y2.1 == (0 : Int))) with c4 | c4
  ·have h := cond_t h c4
   refine RegJ.op (Op1.effk (v := .own 1 0 3) (ob' := [some (.row 1 (List.map vi v17)), some (.row 1 [vi 0, vi 30, vi 50])]) _ _ (cy (IG 40 (.bslice 1 (.p (.int .i64 0)) 3 [(0, (ki 0)), (1, (ki 30)), (2, (ki 50))]) 38 true)) (congrArg some c4) (by kernel_rfl) (.cons rfl (.cons rfl (.cons rfl .nil)))) ?_
   refine RegJ.sees (Sees.freeze 1 (fr' := [(1, eS 1 vi y2.2), (3, vi y5.2), (4, vi y5.1), (5, vi y8.2), (6, vi y8.1), (7, .own 0 0 ((List.replicate ((IntKind.u64.wrap ((IntKind.u64.wrap ((([(-1)] : List Int).length : Nat) : Int)) * (IntKind.u64.wrap ((([(Window.mk 0 2), (Window.mk 0 2), (Window.mk 1 3), (Window.mk 2 3)] : List Window).length : Nat) : Int)))).toNat) (0 : Int)).length)), (8, vi 0), (38, vb (y2.1 == (0 : Int))), (39, .cond (y2.1 == (0 : Int)) (eS 1 vi y2.2)), (40, eS 1 vi ([0, 30, 50] : List Int))]) (ob' := [some (.row 1 (List.map vi v17)), none]) rfl (frzs_cons rfl (frzs_cons rfl (frzs_cons rfl frzs_nil))) (.cons (.refl _) (.cons (.refl _) (.cons (.refl _) (.cons (.refl _) (.cons (.refl _) (.cons (.refl _) (.cons (.refl _) (.cons (.refl _) (.cons (.refl _) (.cons (.own rfl (Nat.le_of_ble_eq_true rfl)) .nil)))))))))) rfl) ?_
   refine bK h fun y18 hy18 h => ?_
   refine RegJ.op (Op1.call (y' := vb y18) (obx := []) (oby := []) (ob2 := [some (.row 1 (List.map vi v17)), none]) _ _ (cy (IG 41 (.call 41 [39, 40]) 38 true)) (congrArg some c4) (agraffebase_Ints_ok n y2.2 ([0, 30, 50] : List Int) y18 hy18) [] (by kernel_rfl) (.cons rfl (.cons c4 (.cons rfl .nil))) (by kernel_rfl) (by kernel_rfl) ObsRen.nil (by kernel_rfl) ObsRen.nil (by kernel_rfl)) ?_
   refine pa 42 38 41 rfl rfl ?_
   refine rk 1 (.d3 (.k4 (.k2 (.i 43 (vb ((y2.1 == (0 : Int)) && y18)) .n)))) ?_
   refine gj (vi y5.1) 44 (.mov 4) 43 true rfl ?_
   refine gk (vb (y5.1 == (0 : Int))) 45 (.bin .eql false 44 (ki 0)) 43 true rfl (fun hg => (.cons hg (.cons rfl .nil))) ?_
   refine pa 46 43 45 rfl rfl ?_
   refine rk 1 (.d3 (.k (.d (.k4 (.i 47 (vb (((y2.1 == (0 : Int)) && y18) && (y5.1 == (0 : Int)))) .n))))) ?_
   refine gj (vi y5.2) 48 (.mov 3) 47 true rfl ?_
   refine gk (vb (y5.2 == ((-1) : Int))) 49 (.bin .eql false 48 (ki (-1))) 47 true rfl (fun hg => (.cons hg (.cons rfl .nil))) ?_
   refine pa 50 47 49 rfl rfl ?_
   refine rk 1 (.d4 (.k4 (.i 51 (vb ((((y2.1 == (0 : Int)) && y18) && (y5.1 == (0 : Int))) && (y5.2 == ((-1) : Int)))) .n))) ?_
   refine gj (vi y8.1) 52 (.mov 6) 51 true rfl ?_
   refine gk (vb (y8.1 == (0 : Int))) 53 (.bin .eql false 52 (ki 0)) 51 true rfl (fun hg => (.cons hg (.cons rfl .nil))) ?_
   refine pa 54 51 53 rfl rfl ?_
   refine rk 1 (.d3 (.k (.d (.k2 (.i 55 (vb (((((y2.1 == (0 : Int)) && y18) && (y5.1 == (0 : Int))) && (y5.2 == ((-1) : Int))) && (y8.1 == (0 : Int)))) .n))))) ?_
   refine gj (vi y8.2) 56 (.mov 5) 55 true rfl ?_
   refine gk (vb (y8.2 == (130 : Int))) 57 (.bin .eql false 56 (ki 130)) 55 true rfl (fun hg => (.cons hg (.cons rfl .nil))) ?_
   refine pa 58 55 57 rfl rfl ?_
   refine rk 1 (.d4 (.k2 (.i 59 (vb ((((((y2.1 == (0 : Int)) && y18) && (y5.1 == (0 : Int))) && (y5.2 == ((-1) : Int))) && (y8.1 == (0 : Int))) && (y8.2 == (130 : Int)))) .n))) ?_
   refine gj (vi 0) 60 (.mov 8) 59 true rfl ?_
   refine gk (vb true) 61 (.bin .eql false 60 (ki 0)) 59 true rfl (fun hg => (.cons hg (.cons rfl .nil))) ?_
   refine pa 62 59 61 rfl rfl ?_
   refine rk 1 (.d3 (.k (.i 63 (vb (((((((y2.1 == (0 : Int)) && y18) && (y5.1 == (0 : Int))) && (y5.2 == ((-1) : Int))) && (y8.1 == (0 : Int))) && (y8.2 == (130 : Int))) && true)) .n))) ?_
   refine gj (.own 0 0 ((List.replicate ((IntKind.u64.wrap ((IntKind.u64.wrap ((([(-1)] : List Int).length : Nat) : Int)) * (IntKind.u64.wrap ((([(Window.mk 0 2), (Window.mk 0 2), (Window.mk 1 3), (Window.mk 2 3)] : List Window).length : Nat) : Int)))).toNat) (0 : Int)).length)) 64 (.mov 7) 63 true rfl ?_
   rcases Bool.eq_false_or_eq_true (((((((y2.1 == (0 : Int)) && y18) && (y5.1 == (0 : Int))) && (y5.2 == ((-1) : Int))) && (y8.1 == (0 : Int))) && (y8.2 == (130 : Int))) && true) with c5 | c5
   ·have h := cond_t h c5
    refine RegJ.op (Op1.effk (v := .own 2 0 4) (ob' := [some (.row 1 (List.map vi v17)), none, some (.row 1 [vi 0, vi 1, vi 2, vi (-1)])]) _ _ (cz (IG 65 (.bslice 1 (.p (.int .i64 0)) 4 [(0, (ki 0)), (1, (ki 1)), (2, (ki 2)), (3, (ki (-1)))]) 63 true) (by kernel_rfl)) (congrArg some c5) (by kernel_rfl) (.cons rfl (.cons rfl (.cons rfl (.cons rfl .nil))))) ?_
    refine RegJ.sees (Sees.freeze 2 (fr' := [(7, .own 0 0 ((List.replicate ((IntKind.u64.wrap ((IntKind.u64.wrap ((([(-1)] : List Int).length : Nat) : Int)) * (IntKind.u64.wrap ((([(Window.mk 0 2), (Window.mk 0 2), (Window.mk 1 3), (Window.mk 2 3)] : List Window).length : Nat) : Int)))).toNat) (0 : Int)).length)), (63, vb (((((((y2.1 == (0 : Int)) && y18) && (y5.1 == (0 : Int))) && (y5.2 == ((-1) : Int))) && (y8.1 == (0 : Int))) && (y8.2 == (130 : Int))) && true)), (64, .cond (((((((y2.1 == (0 : Int)) && y18) && (y5.1 == (0 : Int))) && (y5.2 == ((-1) : Int))) && (y8.1 == (0 : Int))) && (y8.2 == (130 : Int))) && true) (.own 0 0 ((List.replicate ((IntKind.u64.wrap ((IntKind.u64.wrap ((([(-1)] : List Int).length : Nat) : Int)) * (IntKind.u64.wrap ((([(Window.mk 0 2), (Window.mk 0 2), (Window.mk 1 3), (Window.mk 2 3)] : List Window).length : Nat) : Int)))).toNat) (0 : Int)).length))), (65, eS 1 vi ([0, 1, 2, (-1)] : List Int))]) (ob' := [some (.row 1 (List.map vi v17)), none, none]) rfl (frzs_cons rfl (frzs_cons rfl (frzs_cons rfl (frzs_cons rfl frzs_nil)))) (.cons (.refl _) (.cons (.refl _) (.cons (.refl _) (.cons (.own rfl (Nat.le_of_ble_eq_true rfl)) .nil)))) rfl) ?_
    refine bK h fun y19 hy19 h => ?_
    refine RegJ.op (Op1.call (y' := vb y19) (obx := [some (.row 1 (List.map vi v17))]) (oby := [some (.row 1 (List.map vi v17))]) (ob2 := [some (.row 1 (List.map vi v17)), none, none]) _ _ (cy (IG 66 (.call 41 [64, 65]) 63 true)) (congrArg some c5) (agraffebase_Ints_2_ok n v17 0 ((List.replicate ((IntKind.u64.wrap ((IntKind.u64.wrap ((([(-1)] : List Int).length : Nat) : Int)) * (IntKind.u64.wrap ((([(Window.mk 0 2), (Window.mk 0 2), (Window.mk 1 3), (Window.mk 2 3)] : List Window).length : Nat) : Int)))).toNat) (0 : Int)).length) ([0, 1, 2, (-1)] : List Int) y19 hy19) [0] (by kernel_rfl) (.cons rfl (.cons c5 (.cons rfl .nil))) (by kernel_rfl) (by kernel_rfl) (.same (row_ren vi_frz _ _ _) .nil) (by kernel_rfl) (.same (row_ren vi_frz _ _ _) .nil) (by kernel_rfl)) ?_
    refine pa 67 63 66 rfl rfl ?_
    refine jk 1 (.i 0 (vb ((((((((y2.1 == (0 : Int)) && y18) && (y5.1 == (0 : Int))) && (y5.2 == ((-1) : Int))) && (y8.1 == (0 : Int))) && (y8.2 == (130 : Int))) && true) && y19)) .n) ?_
    exact Vs.intro (sc [] (by decide) (by kernel_rfl) ObRen.nil rfl rfl) ⟨((((((((y2.1 == (0 : Int)) && y18) && (y5.1 == (0 : Int))) && (y5.2 == ((-1) : Int))) && (y8.1 == (0 : Int))) && (y8.2 == (130 : Int))) && true) && y19), rfl, h⟩
   have h := cond_f h c5
   refine RegJ.op (Op1.skipc (g := ((((((y2.1 == (0 : Int)) && y18) && (y5.1 == (0 : Int))) && (y5.2 == ((-1) : Int))) && (y8.1 == (0 : Int))) && (y8.2 == (130 : Int))) && true) (v := vb false) (by kernel_rfl : compAt _ _ _ _ = some ⟨(some 65), .bslice 1 (.p (.int .i64 0)) 4 [(0, (ki 0)), (1, (ki 1)), (2, (ki 2)), (3, (ki (-1)))], (some (63, true)), [(ki 0), (ki 1), (ki 2), (ki (-1))], 0⟩) rfl c5) ?_
   refine RegJ.op (Op1.skipc (g := ((((((y2.1 == (0 : Int)) && y18) && (y5.1 == (0 : Int))) && (y5.2 == ((-1) : Int))) && (y8.1 == (0 : Int))) && (y8.2 == (130 : Int))) && true) (v := vb false) (by kernel_rfl : compAt _ _ _ _ = some ⟨(some 66), .call 41 [64, 65], (some (63, true)), [(.c (.fn (.func 41) [] [])), 64, 65], 2⟩) rfl c5) ?_
   refine pa 67 63 66 rfl rfl ?_
   refine jq 1 [(0, vb ((((((((y2.1 == (0 : Int)) && y18) && (y5.1 == (0 : Int))) && (y5.2 == ((-1) : Int))) && (y8.1 == (0 : Int))) && (y8.2 == (130 : Int))) && true) && false))] [some (.row 1 (List.map vi v17)), none] ?_
   exact Vs.intro (sc [] (by decide) (by kernel_rfl) ObRen.nil rfl rfl) ⟨((((((((y2.1 == (0 : Int)) && y18) && (y5.1 == (0 : Int))) && (y5.2 == ((-1) : Int))) && (y8.1 == (0 : Int))) && (y8.2 == (130 : Int))) && true) && false), rfl, h⟩
  have h := cond_f h c4
  refine RegJ.op (Op1.skipc (g := (y2.1 == (0 : Int))) (v := vb false) (by kernel_rfl : compAt _ _ _ _ = some ⟨(some 40), .bslice 1 (.p (.int .i64 0)) 3 [(0, (ki 0)), (1, (ki 30)), (2, (ki 50))], (some (38, true)), [(ki 0), (ki 30), (ki 50)], 0⟩) rfl c4) ?_
  refine RegJ.op (Op1.skipc (g := (y2.1 == (0 : Int))) (v := vb false) (by kernel_rfl : compAt _ _ _ _ = some ⟨(some 41), .call 41 [39, 40], (some (38, true)), [(.c (.fn (.func 41) [] [])), 39, 40], 2⟩) rfl c4) ?_
  refine pa 42 38 41 rfl rfl ?_
  refine rn 1 [(3, vi y5.2), (4, vi y5.1), (5, vi y8.2), (6, vi y8.1), (7, .own 0 0 ((List.replicate ((IntKind.u64.wrap ((IntKind.u64.wrap ((([(-1)] : List Int).length : Nat) : Int)) * (IntKind.u64.wrap ((([(Window.mk 0 2), (Window.mk 0 2), (Window.mk 1 3), (Window.mk 2 3)] : List Window).length : Nat) : Int)))).toNat) (0 : Int)).length)), (8, vi 0), (43, vb ((y2.1 == (0 : Int)) && false))] [some (.row 1 (List.map vi v17))] ?_
  refine gj (vi y5.1) 44 (.mov 4) 43 true rfl ?_
  refine gk (vb (y5.1 == (0 : Int))) 45 (.bin .eql false 44 (ki 0)) 43 true rfl (fun hg => (.cons hg (.cons rfl .nil))) ?_
  refine pa 46 43 45 rfl rfl ?_
  refine rk 1 (.d3 (.k (.d (.k4 (.i 47 (vb (((y2.1 == (0 : Int)) && false) && (y5.1 == (0 : Int)))) .n))))) ?_
  refine gj (vi y5.2) 48 (.mov 3) 47 true rfl ?_
  refine gk (vb (y5.2 == ((-1) : Int))) 49 (.bin .eql false 48 (ki (-1))) 47 true rfl (fun hg => (.cons hg (.cons rfl .nil))) ?_
  refine pa 50 47 49 rfl rfl ?_
  refine rk 1 (.d4 (.k4 (.i 51 (vb ((((y2.1 == (0 : Int)) && false) && (y5.1 == (0 : Int))) && (y5.2 == ((-1) : Int)))) .n))) ?_
  refine gj (vi y8.1) 52 (.mov 6) 51 true rfl ?_
  refine gk (vb (y8.1 == (0 : Int))) 53 (.bin .eql false 52 (ki 0)) 51 true rfl (fun hg => (.cons hg (.cons rfl .nil))) ?_
  refine pa 54 51 53 rfl rfl ?_
  refine rk 1 (.d3 (.k (.d (.k2 (.i 55 (vb (((((y2.1 == (0 : Int)) && false) && (y5.1 == (0 : Int))) && (y5.2 == ((-1) : Int))) && (y8.1 == (0 : Int)))) .n))))) ?_
  refine gj (vi y8.2) 56 (.mov 5) 55 true rfl ?_
  refine gk (vb (y8.2 == (130 : Int))) 57 (.bin .eql false 56 (ki 130)) 55 true rfl (fun hg => (.cons hg (.cons rfl .nil))) ?_
  refine pa 58 55 57 rfl rfl ?_
  refine rk 1 (.d4 (.k2 (.i 59 (vb ((((((y2.1 == (0 : Int)) && false) && (y5.1 == (0 : Int))) && (y5.2 == ((-1) : Int))) && (y8.1 == (0 : Int))) && (y8.2 == (130 : Int)))) .n))) ?_
  refine gj (vi 0) 60 (.mov 8) 59 true rfl ?_
  refine gk (vb true) 61 (.bin .eql false 60 (ki 0)) 59 true rfl (fun hg => (.cons hg (.cons rfl .nil))) ?_
  refine pa 62 59 61 rfl rfl ?_
  refine rk 1 (.d3 (.k (.i 63 (vb (((((((y2.1 == (0 : Int)) && false) && (y5.1 == (0 : Int))) && (y5.2 == ((-1) : Int))) && (y8.1 == (0 : Int))) && (y8.2 == (130 : Int))) && true)) .n))) ?_
  refine gj (.own 0 0 ((List.replicate ((IntKind.u64.wrap ((IntKind.u64.wrap ((([(-1)] : List Int).length : Nat) : Int)) * (IntKind.u64.wrap ((([(Window.mk 0 2), (Window.mk 0 2), (Window.mk 1 3), (Window.mk 2 3)] : List Window).length : Nat) : Int)))).toNat) (0 : Int)).length)) 64 (.mov 7) 63 true rfl ?_
  rcases Bool.eq_false_or_eq_true (((((((y2.1 == (0 : Int)) && false) && (y5.1 == (0 : Int))) && (y5.2 == ((-1) : Int))) && (y8.1 == (0 : Int))) && (y8.2 == (130 : Int))) && true) with c6 | c6
  ·have h := cond_t h c6
   refine RegJ.op (Op1.effk (v := .own 1 0 4) (ob' := [some (.row 1 (List.map vi v17)), some (.row 1 [vi 0, vi 1, vi 2, vi (-1)])]) _ _ (cz (IG 65 (.bslice 1 (.p (.int .i64 0)) 4 [(0, (ki 0)), (1, (ki 1)), (2, (ki 2)), (3, (ki (-1)))]) 63 true) (by kernel_rfl)) (congrArg some c6) (by kernel_rfl) (.cons rfl (.cons rfl (.cons rfl (.cons rfl .nil))))) ?_
   refine RegJ.sees (Sees.freeze 1 (fr' := [(7, .own 0 0 ((List.replicate ((IntKind.u64.wrap ((IntKind.u64.wrap ((([(-1)] : List Int).length : Nat) : Int)) * (IntKind.u64.wrap ((([(Window.mk 0 2), (Window.mk 0 2), (Window.mk 1 3), (Window.mk 2 3)] : List Window).length : Nat) : Int)))).toNat) (0 : Int)).length)), (63, vb (((((((y2.1 == (0 : Int)) && false) && (y5.1 == (0 : Int))) && (y5.2 == ((-1) : Int))) && (y8.1 == (0 : Int))) && (y8.2 == (130 : Int))) && true)), (64, .cond (((((((y2.1 == (0 : Int)) && false) && (y5.1 == (0 : Int))) && (y5.2 == ((-1) : Int))) && (y8.1 == (0 : Int))) && (y8.2 == (130 : Int))) && true) (.own 0 0 ((List.replicate ((IntKind.u64.wrap ((IntKind.u64.wrap ((([(-1)] : List Int).length : Nat) : Int)) * (IntKind.u64.wrap ((([(Window.mk 0 2), (Window.mk 0 2), (Window.mk 1 3), (Window.mk 2 3)] : List Window).length : Nat) : Int)))).toNat) (0 : Int)).length))), (65, eS 1 vi ([0, 1, 2, (-1)] : List Int))]) (ob' := [some (.row 1 (List.map vi v17)), none]) rfl (frzs_cons rfl (frzs_cons rfl (frzs_cons rfl (frzs_cons rfl frzs_nil)))) (.cons (.refl _) (.cons (.refl _) (.cons (.refl _) (.cons (.own rfl (Nat.le_of_ble_eq_true rfl)) .nil)))) rfl) ?_
   refine bK h fun y20 hy20 h => ?_
   refine RegJ.op (Op1.call (y' := vb y20) (obx := [some (.row 1 (List.map vi v17))]) (oby := [some (.row 1 (List.map vi v17))]) (ob2 := [some (.row 1 (List.map vi v17)), none]) _ _ (cy (IG 66 (.call 41 [64, 65]) 63 true)) (congrArg some c6) (agraffebase_Ints_2_ok n v17 0 ((List.replicate ((IntKind.u64.wrap ((IntKind.u64.wrap ((([(-1)] : List Int).length : Nat) : Int)) * (IntKind.u64.wrap ((([(Window.mk 0 2), (Window.mk 0 2), (Window.mk 1 3), (Window.mk 2 3)] : List Window).length : Nat) : Int)))).toNat) (0 : Int)).length) ([0, 1, 2, (-1)] : List Int) y20 hy20) [0] (by kernel_rfl) (.cons rfl (.cons c6 (.cons rfl .nil))) (by kernel_rfl) (by kernel_rfl) (.same (row_ren vi_frz _ _ _) .nil) (by kernel_rfl) (.same (row_ren vi_frz _ _ _) .nil) (by kernel_rfl)) ?_
   refine pa 67 63 66 rfl rfl ?_
   refine jk 1 (.i 0 (vb ((((((((y2.1 == (0 : Int)) && false) && (y5.1 == (0 : Int))) && (y5.2 == ((-1) : Int))) && (y8.1 == (0 : Int))) && (y8.2 == (130 : Int))) && true) && y20)) .n) ?_
   exact Vs.intro (sc [] (by decide) (by kernel_rfl) ObRen.nil rfl rfl) ⟨((((((((y2.1 == (0 : Int)) && false) && (y5.1 == (0 : Int))) && (y5.2 == ((-1) : Int))) && (y8.1 == (0 : Int))) && (y8.2 == (130 : Int))) && true) && y20), rfl, h⟩
  have h := cond_f h c6
  refine RegJ.op (Op1.skipc (g := ((((((y2.1 == (0 : Int)) && false) && (y5.1 == (0 : Int))) && (y5.2 == ((-1) : Int))) && (y8.1 == (0 : Int))) && (y8.2 == (130 : Int))) && true) (v := vb false) (by kernel_rfl : compAt _ _ _ _ = some ⟨(some 65), .bslice 1 (.p (.int .i64 0)) 4 [(0, (ki 0)), (1, (ki 1)), (2, (ki 2)), (3, (ki (-1)))], (some (63, true)), [(ki 0), (ki 1), (ki 2), (ki (-1))], 0⟩) rfl c6) ?_
  refine RegJ.op (Op1.skipc (g := ((((((y2.1 == (0 : Int)) && false) && (y5.1 == (0 : Int))) && (y5.2 == ((-1) : Int))) && (y8.1 == (0 : Int))) && (y8.2 == (130 : Int))) && true) (v := vb false) (by kernel_rfl : compAt _ _ _ _ = some ⟨(some 66), .call 41 [64, 65], (some (63, true)), [(.c (.fn (.func 41) [] [])), 64, 65], 2⟩) rfl c6) ?_
  refine pa 67 63 66 rfl rfl ?_
  refine jq 1 [(0, vb ((((((((y2.1 == (0 : Int)) && false) && (y5.1 == (0 : Int))) && (y5.2 == ((-1) : Int))) && (y8.1 == (0 : Int))) && (y8.2 == (130 : Int))) && true) && false))] [some (.row 1 (List.map vi v17))] ?_
  exact Vs.intro (sc [] (by decide) (by kernel_rfl) ObRen.nil rfl rfl) ⟨((((((((y2.1 == (0 : Int)) && false) && (y5.1 == (0 : Int))) && (y5.2 == ((-1) : Int))) && (y8.1 == (0 : Int))) && (y8.2 == (130 : Int))) && true) && false), rfl, h⟩
 intro k1 k3 h
 refine q6 ?_
 refine rko 5 (.k4 (.k2 (.i 32 (.own 0 0 4) .n))) [some (.row 2 [.agg [vi 0, vi 2], .agg [vi 0, vi 2], .agg [vi 1, vi 3], .agg [vi 2, vi 3]])] ?_
 refine RegJ.sees (Sees.freeze 0 (fr' := [(1, eS 1 vi y2.2), (2, vi y2.1), (3, vi y5.2), (4, vi y5.1), (5, vi y8.2), (6, vi y8.1), (32, eS 2 eWindow ([(Window.mk 0 2), (Window.mk 0 2), (Window.mk 1 3), (Window.mk 2 3)] : List Window))]) (ob' := [none]) rfl (frzs_cons rfl (frzs_cons rfl (frzs_cons rfl (frzs_cons rfl frzs_nil)))) (.cons (.refl _) (.cons (.refl _) (.cons (.refl _) (.cons (.refl _) (.cons (.refl _) (.cons (.refl _) (.cons (.own rfl (Nat.le_of_ble_eq_true rfl)) .nil))))))) rfl) ?_
 refine bK h fun y9 hy9 h => ?_
 rcases y9 with y9 | y9
 ·dsimp only at h
  refine jc 33 [32] (diary_Most_ok n ([(Window.mk 0 2), (Window.mk 0 2), (Window.mk 1 3), (Window.mk 2 3)] : List Window) (Sum.inl y9) hy9) ?_
  refine jk 5 (.d (.k4 (.k2 (.i 7 .emp (.i 8 (vi y9) .n))))) ?_
  exact Vs.intro (sc [] (by decide) (by kernel_rfl) ObRen.nil rfl rfl) (.inl ⟨y9, rfl, h⟩)
 dsimp only at h
 refine jco (.tup [.own 1 0 ((List.replicate ((IntKind.u64.wrap ((IntKind.u64.wrap ((([(-1)] : List Int).length : Nat) : Int)) * (IntKind.u64.wrap ((([(Window.mk 0 2), (Window.mk 0 2), (Window.mk 1 3), (Window.mk 2 3)] : List Window).length : Nat) : Int)))).toNat) (0 : Int)).length), vi 0]) 33 [32] (diary_Most_ok n ([(Window.mk 0 2), (Window.mk 0 2), (Window.mk 1 3), (Window.mk 2 3)] : List Window) (Sum.inr y9) hy9) [] rfl ObsRen.nil (.same (row_ren vi_frz _ _ _) .nil) rfl ?_
 refine jk 5 (.d (.k4 (.k2 (.i 7 (.own 1 0 ((List.replicate ((IntKind.u64.wrap ((IntKind.u64.wrap ((([(-1)] : List Int).length : Nat) : Int)) * (IntKind.u64.wrap ((([(Window.mk 0 2), (Window.mk 0 2), (Window.mk 1 3), (Window.mk 2 3)] : List Window).length : Nat) : Int)))).toNat) (0 : Int)).length)) (.i 8 (vi 0) .n))))) ?_
 exact Vs.intro (sc [1] (by decide) (by kernel_rfl) (obRen_row vi_frz rfl .nil) rfl rfl) (.inr ⟨y9, rfl, h⟩)
theorem agraffelaw09_short_ok (n : Nat) (a0 : List Str) (a1 : Int) (a2 : Int) (r : Bool) (h : agraffelaw09_short n a0 a1 a2 = some r) : FnL Try.prog 26 [eS 1 vt a0, vi a1, vi a2] [] (vb r) [] := by
 dsimp only [agraffelaw09_short] at h
 refine fo [6] Try.call26 Try.func26 rfl ?_
 refine sk .a ?_
 refine TriE.seqK h (fun (_ : Unit) => St.mk [(0, eS 1 vt a0), (1, vi a1), (2, vi a2)] []) ?_ ?_
 ·rintro ⟨⟩ h
  refine sj ?_
  refine rk 1 (.k3 (.i 20 (eS 1 vt a0) .n)) ?_
  refine jo 21 (.len 0 20) (ok_len_m rfl) ?_
  refine rk 3 (.d (.k (.d (.k (.i 24 (vb (decide ((a0.length : Int) ≤ a1))) .n))))) ?_
  refine gj (eS 1 vt a0) 25 (.mov 0) 24 false rfl ?_
  refine gv 26 (.len 0 25) 24 false rfl (fun hg => (ok_len_m rfl)) (fun hg => (.cons hg .nil)) ?_
  refine gj (vi a2) 27 (.mov 2) 24 false rfl ?_
  refine gk (vb (decide (a2 < (a0.length : Int)))) 28 (.bin .gtr false 26 27) 24 false rfl (fun hg => (.cons hg (.cons hg .nil))) ?_
  refine gk (vb (decide (a2 < (a0.length : Int)))) 29 (.mov 28) 24 false rfl (fun hg => (.cons hg .nil)) ?_
  refine gj (eS 1 vt a0) 30 (.mov 0) 29 true rfl ?_
  refine gv 31 (.len 0 30) 29 true rfl (fun hg => (ok_len_m rfl)) (fun hg => (.cons hg .nil)) ?_
  refine gj (vi a2) 32 (.mov 2) 29 true rfl ?_
  refine cK h fun c4 h => ?_
  refine gv 33 (.bin .add false 32 (ki 3)) 29 true rfl (fun hg => (r_add rfl rfl (gor c4 hg))) (fun hg => (.cons hg (.cons rfl .nil))) ?_
  refine gk (vb (decide ((a0.length : Int) ≤ (a2 + 3)))) 34 (.bin .leq false 31 33) 29 true rfl (fun hg => (.cons hg (.cons hg .nil))) ?_
  refine RegJ.op (Op1.andg (g := !(decide ((a0.length : Int) ≤ a1))) (cy (IG 35 (.pick 29 34 (.c (.p (.bool false)))) 24 false)) rfl rfl rfl (fun hg => by first | exact hokA2 hg | exact hokA3 hg | exact hokA1 | exact hokA0 | (rw [hg]; simp) | simp_all)) ?_
  refine po 36 24 35 rfl rfl ?_
  refine jk 1 (.i 6 (vb ((decide ((a0.length : Int) ≤ a1)) || ((decide (a2 < (a0.length : Int))) && (decide ((a0.length : Int) ≤ (a2 + 3)))))) .n) ?_
  refine q3 ?_
  have h := si h
  subst h
  exact DoneS.ret Sees.refl rfl rfl
 intro k1 h
 refine sk (.k3 (.i 7 (vi 0) .n)) ?_
 refine q4 ?_
 refine ts (.k3 (.i 7 (vi 0) .n)) ?_
 refine TriE.loopN h (fun (v1 : Nat) => St.mk [(0, eS 1 vt a0), (1, vi a1), (2, vi a2), (7, vi v1)] []) rfl ?_
 clear h
 rintro back v1 h
 dsimp only [agraffelaw09_short_L1] at h
 refine q1 ?_
 refine sj ?_
 refine rk 2 (.k4 (.i 8 (vi v1) (.i 9 (eS 1 vt a0) .n))) ?_
 refine jo 10 (.len 0 9) (ok_len_m rfl) ?_
 refine jo 11 (.bin .lss false 8 10) (n_lss (i := v1) (j := a0.length) rfl rfl) ?_
 refine jf (.d2 (.k4 (.i 11 (vb (decide (v1 < a0.length))) .n))) ?_
 refine tc h (fun c1 h => ?_) (fun c1 h => ?_)
 ·refine q2 ?_
  refine q7 ?_
  refine sj ?_
  refine rk 2 (.k4 (.i 14 (eS 1 vt a0) (.i 15 (vi v1) .n))) ?_
  refine jo 16 (.iaddr 1 14 15) (ok_iaddr_m (j := v1) rfl rfl rfl c1) ?_
  refine jo 17 (.load false 1 16) (ok_load_fm (v := vt (ix a0 v1)) rfl c1 rfl) ?_
  refine jo 18 (.len 1 17) (ok_len_t rfl) ?_
  refine jo 19 (.bin .gtr false 18 (ki 30)) (n_gtr (i := (ix a0 v1).length) (j := 30) rfl rfl) ?_
  refine jf (.d4 (.k4 (.i 19 (vb (decide (30 < ((ix a0 v1).length)))) .n))) ?_
  refine tc h (fun c2 h => ?_) (fun c2 h => ?_)
  ·refine sk (.i 6 (vb false) .n) ?_
   refine q3 ?_
   have h := si h
   subst h
   exact DoneS.ret Sees.refl rfl rfl
  refine q2 ?_
  refine q6 ?_
  refine rk 1 (.k3 (.i 12 (vi v1) .n)) ?_
  refine cK h fun c3 h => ?_
  refine jo 13 (.bin .add false 12 (ki 1)) (r_addn (i := v1) (j := 1) rfl rfl c3) ?_
  refine jk 1 (.d (.k3 (.i 7 (vi ((v1 + 1 : Nat) : Int)) .n))) ?_
  exact Vs.intro sy ⟨(v1 + 1), rfl, h⟩
 refine q5 ?_
 exact Vs.intro sy ⟨(), rfl, h⟩
set_option maxHeartbeats 1000000 in
theorem agraffelaw09_Light_ok (n : Nat) (a0 : Diary) (r : Bool) (h : agraffelaw09_Light n a0 = some r) : FnL Try.prog 14 [.agg [eS 1 vt a0.Places, eS 1 vt a0.Technicians, eS 4 eRoad a0.Roads, eS 3 eGrand a0.Grands, vi a0.Change, vi a0.Lasts]] [] (vb r) [] := by
 dsimp only [agraffelaw09_Light] at h
 refine fo [2] Try.call14 Try.func14 rfl ?_
 refine sko (.i 1 (.ptr 0 0 0) .n) [some (.row 6 [.agg [eS 1 vt a0.Places, eS 1 vt a0.Technicians, eS 4 eRoad a0.Roads, eS 3 eGrand a0.Grands, vi a0.Change, vi a0.Lasts]])] ?_
 refine q1 ?_
 refine sj ?_
 refine rk 2 (.k (.i 6 (eS 1 vt a0.Places) .n)) ?_
 refine bK h fun y1 hy1 h => ?_
 refine jc 7 [6, (ki 6), (ki 20)] (agraffelaw09_short_ok n a0.Places 6 20 y1 hy1) ?_
 refine rk 2 (.d (.k (.i 9 (vb (!y1)) .n))) ?_
 refine gj (.ptr 0 0 1) 10 (.faddr 1 1) 9 false rfl ?_
 refine gk (eS 1 vt a0.Technicians) 11 (.load false 1 10) 9 false rfl (fun hg => (.cons hg .nil)) ?_
 refine bK h fun y2 hy2 h => ?_
 refine gc 12 [11, (ki 4), (ki 12)] 9 false rfl (fun hg => agraffelaw09_short_ok n a0.Technicians 4 12 y2 (gcall_some hy2 hg)) (fun hg => (.cons rfl (.cons hg (.cons rfl (.cons rfl .nil))))) (fun hg => by kernel_rfl) ?_
 refine gk (vb (!y2)) 13 (.un .not 12) 9 false rfl (fun hg => (.cons hg .nil)) ?_
 refine po 14 9 13 rfl rfl ?_
 refine rk 1 (.d4 (.d (.k (.i 15 (vb ((!y1) || (!y2))) .n)))) ?_
 refine gj (.ptr 0 0 2) 16 (.faddr 2 1) 15 false rfl ?_
 refine gk (eS 4 eRoad a0.Roads) 17 (.load false 1 16) 15 false rfl (fun hg => (.cons hg .nil)) ?_
 refine gv 18 (.len 0 17) 15 false rfl (fun hg => (ok_len_m rfl)) (fun hg => (.cons hg .nil)) ?_
 refine gv 19 (.bin .gtr false 18 (ki 8)) 15 false rfl (fun hg => (n_gtr (i := a0.Roads.length) (j := 8) rfl rfl)) (fun hg => (.cons hg (.cons rfl .nil))) ?_
 refine gk (vb (decide (8 < a0.Roads.length))) 20 (.mov 19) 15 false rfl (fun hg => (.cons hg .nil)) ?_
 refine gj (.ptr 0 0 2) 21 (.faddr 2 1) 20 true rfl ?_
 refine gk (eS 4 eRoad a0.Roads) 22 (.load false 1 21) 20 true rfl (fun hg => (.cons hg .nil)) ?_
 refine gv 23 (.len 0 22) 20 true rfl (fun hg => (ok_len_m rfl)) (fun hg => (.cons hg .nil)) ?_
 refine gv 24 (.bin .leq false 23 (ki 60)) 20 true rfl (fun hg => (n_leq (i := a0.Roads.length) (j := 60) rfl rfl)) (fun hg => (.cons hg (.cons rfl .nil))) ?_
 refine RegJ.op (Op1.andg (g := !((!y1) || (!y2))) (cy (IG 25 (.pick 20 24 (.c (.p (.bool false)))) 15 false)) rfl rfl rfl (fun hg => by first | exact hokA2 hg | exact hokA3 hg | exact hokA1 | exact hokA0 | (rw [hg]; simp) | simp_all)) ?_
 refine po 26 15 25 rfl rfl ?_
 refine rk 1 (.d4 (.d4 (.d3 (.k (.i 27 (vb (((!y1) || (!y2)) || ((decide (8 < a0.Roads.length)) && (decide (a0.Roads.length ≤ 60))))) .n))))) ?_
 refine gj (.ptr 0 0 2) 28 (.faddr 2 1) 27 false rfl ?_
 refine gk (eS 4 eRoad a0.Roads) 29 (.load false 1 28) 27 false rfl (fun hg => (.cons hg .nil)) ?_
 refine gv 30 (.len 0 29) 27 false rfl (fun hg => (ok_len_m rfl)) (fun hg => (.cons hg .nil)) ?_
 refine gv 31 (.bin .gtr false 30 (ki 63)) 27 false rfl (fun hg => (n_gtr (i := a0.Roads.length) (j := 63) rfl rfl)) (fun hg => (.cons hg (.cons rfl .nil))) ?_
 refine po 32 27 31 rfl rfl ?_
 refine rk 1 (.d4 (.d (.k (.i 33 (vb ((((!y1) || (!y2)) || ((decide (8 < a0.Roads.length)) && (decide (a0.Roads.length ≤ 60)))) || (decide (63 < a0.Roads.length)))) .n)))) ?_
 refine gj (.ptr 0 0 3) 34 (.faddr 3 1) 33 false rfl ?_
 refine gk (eS 3 eGrand a0.Grands) 35 (.load false 1 34) 33 false rfl (fun hg => (.cons hg .nil)) ?_
 refine gv 36 (.len 0 35) 33 false rfl (fun hg => (ok_len_m rfl)) (fun hg => (.cons hg .nil)) ?_
 refine gv 37 (.bin .gtr false 36 (ki 4)) 33 false rfl (fun hg => (n_gtr (i := a0.Grands.length) (j := 4) rfl rfl)) (fun hg => (.cons hg (.cons rfl .nil))) ?_
 refine gk (vb (decide (4 < a0.Grands.length))) 38 (.mov 37) 33 false rfl (fun hg => (.cons hg .nil)) ?_
 refine gj (.ptr 0 0 3) 39 (.faddr 3 1) 38 true rfl ?_
 refine gk (eS 3 eGrand a0.Grands) 40 (.load false 1 39) 38 true rfl (fun hg => (.cons hg .nil)) ?_
 refine gv 41 (.len 0 40) 38 true rfl (fun hg => (ok_len_m rfl)) (fun hg => (.cons hg .nil)) ?_
 refine gv 42 (.bin .leq false 41 (ki 12)) 38 true rfl (fun hg => (n_leq (i := a0.Grands.length) (j := 12) rfl rfl)) (fun hg => (.cons hg (.cons rfl .nil))) ?_
 refine RegJ.op (Op1.andg (g := !((((!y1) || (!y2)) || ((decide (8 < a0.Roads.length)) && (decide (a0.Roads.length ≤ 60)))) || (decide (63 < a0.Roads.length)))) (cy (IG 43 (.pick 38 42 (.c (.p (.bool false)))) 33 false)) rfl rfl rfl (fun hg => by first | exact hokA2 hg | exact hokA3 hg | exact hokA1 | exact hokA0 | (rw [hg]; simp) | simp_all)) ?_
 refine po 44 33 43 rfl rfl ?_
 refine rk 1 (.d4 (.d4 (.d3 (.k (.i 45 (vb (((((!y1) || (!y2)) || ((decide (8 < a0.Roads.length)) && (decide (a0.Roads.length ≤ 60)))) || (decide (63 < a0.Roads.length))) || ((decide (4 < a0.Grands.length)) && (decide (a0.Grands.length ≤ 12))))) .n))))) ?_
 refine gj (.ptr 0 0 3) 46 (.faddr 3 1) 45 false rfl ?_
 refine gk (eS 3 eGrand a0.Grands) 47 (.load false 1 46) 45 false rfl (fun hg => (.cons hg .nil)) ?_
 refine gv 48 (.len 0 47) 45 false rfl (fun hg => (ok_len_m rfl)) (fun hg => (.cons hg .nil)) ?_
 refine gv 49 (.bin .gtr false 48 (ki 15)) 45 false rfl (fun hg => (n_gtr (i := a0.Grands.length) (j := 15) rfl rfl)) (fun hg => (.cons hg (.cons rfl .nil))) ?_
 refine po 50 45 49 rfl rfl ?_
 refine jf (.d4 (.d (.k (.i 50 (vb ((((((!y1) || (!y2)) || ((decide (8 < a0.Roads.length)) && (decide (a0.Roads.length ≤ 60)))) || (decide (63 < a0.Roads.length))) || ((decide (4 < a0.Grands.length)) && (decide (a0.Grands.length ≤ 12)))) || (decide (15 < a0.Grands.length)))) .n)))) ?_
 refine tc h (fun c1 h => ?_) (fun c1 h => ?_)
 ·refine sk (.i 2 (vb false) .n) ?_
  refine q3 ?_
  have h := si h
  subst h
  exact DoneS.ret (S' := ⟨[(2, vb false)], []⟩) (sc [] (by decide) (by kernel_rfl) ObRen.nil rfl rfl) rfl rfl
 refine q2 ?_
 refine TriE.seqK h (fun (_ : Unit) => St.mk [(1, .ptr 0 0 0)] [some (.row 6 [.agg [eS 1 vt a0.Places, eS 1 vt a0.Technicians, eS 4 eRoad a0.Roads, eS 3 eGrand a0.Grands, vi a0.Change, vi a0.Lasts]])]) ?_ ?_
 ·rintro ⟨⟩ h
  refine TriE.seqK h (fun (_ : Unit) => St.mk [] []) ?_ ?_
  ·rintro ⟨⟩ h
   refine sk (.i 2 (vb true) .n) ?_
   refine q3 ?_
   have h := si h
   subst h
   exact DoneS.ret Sees.refl rfl rfl
  intro k2 h
  refine sk (.k (.i 4 (vi 0) .n)) ?_
  refine q4 ?_
  refine ts (.k (.i 4 (vi 0) .n)) ?_
  refine TriE.loopN h (fun (v4 : Nat) => St.mk [(1, .ptr 0 0 0), (4, vi v4)] [some (.row 6 [.agg [eS 1 vt a0.Places, eS 1 vt a0.Technicians, eS 4 eRoad a0.Roads, eS 3 eGrand a0.Grands, vi a0.Change, vi a0.Lasts]])]) rfl ?_
  clear h
  rintro back v4 h
  dsimp only [agraffelaw09_Light_L2] at h
  refine q1 ?_
  refine sj ?_
  refine rk 3 (.k2 (.i 76 (vi v4) (.i 78 (eS 3 eGrand a0.Grands) .n))) ?_
  refine jo 79 (.len 0 78) (ok_len_m rfl) ?_
  refine jo 80 (.bin .lss false 76 79) (n_lss (i := v4) (j := a0.Grands.length) rfl rfl) ?_
  refine jf (.d2 (.k2 (.i 80 (vb (decide (v4 < a0.Grands.length))) .n))) ?_
  refine tc h (fun c5 h => ?_) (fun c5 h => ?_)
  ·refine q2 ?_
   refine q7 ?_
   refine sj ?_
   refine rk 3 (.k2 (.i 84 (eS 3 eGrand a0.Grands) (.i 85 (vi v4) .n))) ?_
   refine jo 86 (.iaddr 3 84 85) (ok_iaddr_m (j := v4) rfl rfl rfl c5) ?_
   refine rk 1 (.d (.k2 (.i 87 (.fptr 3 (List.map eGrand a0.Grands) v4 0) .n))) ?_
   refine jo 88 (.load false 1 87) (ok_load_fm (v := vt ((ix a0.Grands v4).Name)) rfl c5 rfl) ?_
   refine jo 89 (.len 1 88) (ok_len_t rfl) ?_
   refine jo 90 (.bin .gtr false 89 (ki 30)) (n_gtr (i := ((ix a0.Grands v4).Name).length) (j := 30) rfl rfl) ?_
   refine rk 1 (.d3 (.k2 (.i 91 (vb (decide (30 < (((ix a0.Grands v4).Name).length)))) .n))) ?_
   refine gj (.ptr 0 0 3) 92 (.faddr 3 1) 91 false rfl ?_
   refine gk (eS 3 eGrand a0.Grands) 93 (.load false 1 92) 91 false rfl (fun hg => (.cons hg .nil)) ?_
   refine gj (vi v4) 94 (.mov 4) 91 false rfl ?_
   refine gv 95 (.iaddr 3 93 94) 91 false rfl (fun hg => (ok_iaddr_m (j := v4) rfl rfl rfl c5)) (fun hg => (.cons hg (.cons hg .nil))) ?_
   refine gk (.fptr 3 (List.map eGrand a0.Grands) v4 1) 96 (.faddr 1 95) 91 false rfl (fun hg => (.cons hg .nil)) ?_
   refine gv 97 (.load false 1 96) 91 false rfl (fun hg => (ok_load_fm (v := vt ((ix a0.Grands v4).Place)) rfl c5 rfl)) (fun hg => (.cons hg .nil)) ?_
   refine gv 98 (.len 1 97) 91 false rfl (fun hg => (ok_len_t rfl)) (fun hg => (.cons hg .nil)) ?_
   refine gv 99 (.bin .gtr false 98 (ki 30)) 91 false rfl (fun hg => (n_gtr (i := ((ix a0.Grands v4).Place).length) (j := 30) rfl rfl)) (fun hg => (.cons hg (.cons rfl .nil))) ?_
   refine po 100 91 99 rfl rfl ?_
   refine jf (.d4 (.d4 (.d (.k2 (.i 100 (vb ((decide (30 < (((ix a0.Grands v4).Name).length))) || (decide (30 < (((ix a0.Grands v4).Place).length))))) .n))))) ?_
   refine tc h (fun c6 h => ?_) (fun c6 h => ?_)
   ·refine sk (.i 2 (vb false) .n) ?_
    refine q3 ?_
    have h := si h
    subst h
    exact DoneS.ret (S' := ⟨[(2, vb false)], []⟩) (sc [] (by decide) (by kernel_rfl) ObRen.nil rfl rfl) rfl rfl
   refine q2 ?_
   refine q6 ?_
   refine rk 1 (.k (.i 81 (vi v4) .n)) ?_
   refine cK h fun c7 h => ?_
   refine jo 82 (.bin .add false 81 (ki 1)) (r_addn (i := v4) (j := 1) rfl rfl c7) ?_
   refine jk 1 (.d (.k (.i 4 (vi ((v4 + 1 : Nat) : Int)) .n))) ?_
   exact Vs.intro sy ⟨(v4 + 1), rfl, h⟩
  refine q5 ?_
  exact Vs.intro (sc [] (by decide) (by kernel_rfl) ObRen.nil rfl rfl) ⟨(), rfl, h⟩
 intro k1 h
 refine sk (.k (.i 3 (vi 0) .n)) ?_
 refine q4 ?_
 refine ts (.k (.i 3 (vi 0) .n)) ?_
 refine TriE.loopN h (fun (v3 : Nat) => St.mk [(1, .ptr 0 0 0), (3, vi v3)] [some (.row 6 [.agg [eS 1 vt a0.Places, eS 1 vt a0.Technicians, eS 4 eRoad a0.Roads, eS 3 eGrand a0.Grands, vi a0.Change, vi a0.Lasts]])]) rfl ?_
 clear h
 rintro back v3 h
 dsimp only [agraffelaw09_Light_L1] at h
 refine q1 ?_
 refine sj ?_
 refine rk 3 (.k2 (.i 51 (vi v3) (.i 53 (eS 4 eRoad a0.Roads) .n))) ?_
 refine jo 54 (.len 0 53) (ok_len_m rfl) ?_
 refine jo 55 (.bin .lss false 51 54) (n_lss (i := v3) (j := a0.Roads.length) rfl rfl) ?_
 refine jf (.d2 (.k2 (.i 55 (vb (decide (v3 < a0.Roads.length))) .n))) ?_
 refine tc h (fun c2 h => ?_) (fun c2 h => ?_)
 ·refine q2 ?_
  refine q7 ?_
  refine sj ?_
  refine rk 3 (.k2 (.i 59 (eS 4 eRoad a0.Roads) (.i 60 (vi v3) .n))) ?_
  refine jo 61 (.iaddr 4 59 60) (ok_iaddr_m (j := v3) rfl rfl rfl c2) ?_
  refine rk 1 (.d (.k2 (.i 62 (.fptr 4 (List.map eRoad a0.Roads) v3 0) .n))) ?_
  refine jo 63 (.load false 1 62) (ok_load_fm (v := vt ((ix a0.Roads v3).A)) rfl c2 rfl) ?_
  refine jo 64 (.len 1 63) (ok_len_t rfl) ?_
  refine jo 65 (.bin .gtr false 64 (ki 30)) (n_gtr (i := ((ix a0.Roads v3).A).length) (j := 30) rfl rfl) ?_
  refine rk 1 (.d3 (.k2 (.i 66 (vb (decide (30 < (((ix a0.Roads v3).A).length)))) .n))) ?_
  refine gj (.ptr 0 0 2) 67 (.faddr 2 1) 66 false rfl ?_
  refine gk (eS 4 eRoad a0.Roads) 68 (.load false 1 67) 66 false rfl (fun hg => (.cons hg .nil)) ?_
  refine gj (vi v3) 69 (.mov 3) 66 false rfl ?_
  refine gv 70 (.iaddr 4 68 69) 66 false rfl (fun hg => (ok_iaddr_m (j := v3) rfl rfl rfl c2)) (fun hg => (.cons hg (.cons hg .nil))) ?_
  refine gk (.fptr 4 (List.map eRoad a0.Roads) v3 1) 71 (.faddr 1 70) 66 false rfl (fun hg => (.cons hg .nil)) ?_
  refine gv 72 (.load false 1 71) 66 false rfl (fun hg => (ok_load_fm (v := vt ((ix a0.Roads v3).B)) rfl c2 rfl)) (fun hg => (.cons hg .nil)) ?_
  refine gv 73 (.len 1 72) 66 false rfl (fun hg => (ok_len_t rfl)) (fun hg => (.cons hg .nil)) ?_
  refine gv 74 (.bin .gtr false 73 (ki 30)) 66 false rfl (fun hg => (n_gtr (i := ((ix a0.Roads v3).B).length) (j := 30) rfl rfl)) (fun hg => (.cons hg (.cons rfl .nil))) ?_
  refine po 75 66 74 rfl rfl ?_
  refine jf (.d4 (.d4 (.d (.k2 (.i 75 (vb ((decide (30 < (((ix a0.Roads v3).A).length))) || (decide (30 < (((ix a0.Roads v3).B).length))))) .n))))) ?_
  refine tc h (fun c3 h => ?_) (fun c3 h => ?_)
  ·refine sk (.i 2 (vb false) .n) ?_
   refine q3 ?_
   have h := si h
   subst h
   exact DoneS.ret (S' := ⟨[(2, vb false)], []⟩) (sc [] (by decide) (by kernel_rfl) ObRen.nil rfl rfl) rfl rfl
  refine q2 ?_
  refine q6 ?_
  refine rk 1 (.k (.i 56 (vi v3) .n)) ?_
  refine cK h fun c4 h => ?_
  refine jo 57 (.bin .add false 56 (ki 1)) (r_addn (i := v3) (j := 1) rfl rfl c4) ?_
  refine jk 1 (.d (.k (.i 3 (vi ((v3 + 1 : Nat) : Int)) .n))) ?_
  exact Vs.intro sy ⟨(v3 + 1), rfl, h⟩
 refine q5 ?_
 exact Vs.intro sy ⟨(), rfl, h⟩
theorem agraffebase_isLetter_ok (n : Nat) (a0 : Int) (r : Unit) (h : agraffebase_isLetter n a0 = some r) : FnL Try.prog 102 [vk .u8 a0] [] (vb (((decide ((97 : Int) ≤ a0)) && (decide (a0 ≤ (122 : Int)))) || ((decide ((65 : Int) ≤ a0)) && (decide (a0 ≤ (90 : Int)))))) [] := by
 dsimp only [agraffebase_isLetter] at h
 refine fo [2] Try.call102 Try.func102 rfl ?_
 refine sk .a ?_
 refine sj ?_
 refine rk 3 (.k (.i 5 (vb (decide ((97 : Int) ≤ a0))) .n)) ?_
 refine gj (vk .u8 a0) 6 (.mov 0) 5 true rfl ?_
 refine gk (vb (decide (a0 ≤ (122 : Int)))) 7 (.bin .leq false 6 (.c (.p (.int .u8 122)))) 5 true rfl (fun hg => (.cons hg (.cons rfl .nil))) ?_
 refine pa 8 5 7 rfl rfl ?_
 refine rk 1 (.d3 (.k (.i 9 (vb ((decide ((97 : Int) ≤ a0)) && (decide (a0 ≤ (122 : Int))))) .n))) ?_
 refine gj (vk .u8 a0) 10 (.mov 0) 9 false rfl ?_
 refine gk (vb (decide ((65 : Int) ≤ a0))) 11 (.bin .geq false 10 (.c (.p (.int .u8 65)))) 9 false rfl (fun hg => (.cons hg (.cons rfl .nil))) ?_
 refine gk (vb (decide ((65 : Int) ≤ a0))) 12 (.mov 11) 9 false rfl (fun hg => (.cons hg .nil)) ?_
 refine gj (vk .u8 a0) 13 (.mov 0) 12 true rfl ?_
 refine gk (vb (decide (a0 ≤ (90 : Int)))) 14 (.bin .leq false 13 (.c (.p (.int .u8 90)))) 12 true rfl (fun hg => (.cons hg (.cons rfl .nil))) ?_
 refine RegJ.op (Op1.andg (g := !((decide ((97 : Int) ≤ a0)) && (decide (a0 ≤ (122 : Int))))) (cy (IG 15 (.pick 12 14 (.c (.p (.bool false)))) 9 false)) rfl rfl rfl (fun hg => by first | exact hokA2 hg | exact hokA3 hg | exact hokA1 | exact hokA0 | (rw [hg]; simp) | simp_all)) ?_
 refine po 16 9 15 rfl rfl ?_
 refine jk 1 (.i 2 (vb (((decide ((97 : Int) ≤ a0)) && (decide (a0 ≤ (122 : Int)))) || ((decide ((65 : Int) ≤ a0)) && (decide (a0 ≤ (90 : Int)))))) .n) ?_
 refine q3 ?_
 have h := si h
 subst h
 exact DoneS.ret Sees.refl rfl rfl
theorem agraffebase_isDigit_ok (n : Nat) (a0 : Int) (r : Unit) (h : agraffebase_isDigit n a0 = some r) : FnL Try.prog 103 [vk .u8 a0] [] (vb ((decide ((48 : Int) ≤ a0)) && (decide (a0 ≤ (57 : Int))))) [] := by
 dsimp only [agraffebase_isDigit] at h
 refine fo [2] Try.call103 Try.func103 rfl ?_
 refine sk .a ?_
 refine sj ?_
 refine rk 3 (.k (.i 5 (vb (decide ((48 : Int) ≤ a0))) .n)) ?_
 refine gj (vk .u8 a0) 6 (.mov 0) 5 true rfl ?_
 refine gk (vb (decide (a0 ≤ (57 : Int)))) 7 (.bin .leq false 6 (.c (.p (.int .u8 57)))) 5 true rfl (fun hg => (.cons hg (.cons rfl .nil))) ?_
 refine pa 8 5 7 rfl rfl ?_
 refine jk 1 (.i 2 (vb ((decide ((48 : Int) ≤ a0)) && (decide (a0 ≤ (57 : Int))))) .n) ?_
 refine q3 ?_
 have h := si h
 subst h
 exact DoneS.ret Sees.refl rfl rfl
set_option maxHeartbeats 1000000 in
theorem agraffebase_IsName_ok (n : Nat) (a0 : Str) (r : Bool) (h : agraffebase_IsName n a0 = some r) : FnL Try.prog 64 [vt a0] [] (vb r) [] := by
 dsimp only [agraffebase_IsName] at h
 refine fo [2] Try.call64 Try.func64 rfl ?_
 refine sk .a ?_
 refine q1 ?_
 refine sj ?_
 refine rk 1 (.k (.i 4 (vt a0) .n)) ?_
 refine jo 5 (.len 1 4) (ok_len_t rfl) ?_
 refine jo 6 (.bin .eql false 5 (ki 0)) (n_eql (i := a0.length) (j := 0) rfl rfl) ?_
 refine rk 1 (.d2 (.k (.i 7 (vb (decide (a0.length = 0))) .n))) ?_
 refine gj (vt a0) 8 (.mov 0) 7 false rfl ?_
 refine gv 9 (.len 1 8) 7 false rfl (fun hg => (ok_len_t rfl)) (fun hg => (.cons hg .nil)) ?_
 refine gv 10 (.bin .gtr false 9 (ki 12)) 7 false rfl (fun hg => (n_gtr (i := a0.length) (j := 12) rfl rfl)) (fun hg => (.cons hg (.cons rfl .nil))) ?_
 refine po 11 7 10 rfl rfl ?_
 refine rk 1 (.d4 (.k (.i 12 (vb ((decide (a0.length = 0)) || (decide (12 < a0.length)))) .n))) ?_
 refine gj (vt a0) 13 (.mov 0) 12 false rfl ?_
 refine cK h fun c1 h => ?_
 refine gv 14 (.sidx 13 (ki 0)) 12 false rfl (fun hg => (ok_sidx_t (j := 0) rfl rfl rfl (gor c1 hg))) (fun hg => (.cons hg (.cons rfl .nil))) ?_
 refine bK h fun y1 hy1 h => ?_
 refine gc 15 [14] 12 false rfl (fun hg => agraffebase_isLetter_ok n (((List.getD a0 0 0).toNat : Nat) : Int) y1 (gcall_some hy1 hg)) (fun hg => (.cons rfl (.cons hg .nil))) (fun hg => by kernel_rfl) ?_
 refine gk (vb (!(((decide ((97 : Int) ≤ (((List.getD a0 0 0).toNat : Nat) : Int))) && (decide ((((List.getD a0 0 0).toNat : Nat) : Int) ≤ (122 : Int)))) || ((decide ((65 : Int) ≤ (((List.getD a0 0 0).toNat : Nat) : Int))) && (decide ((((List.getD a0 0 0).toNat : Nat) : Int) ≤ (90 : Int))))))) 16 (.un .not 15) 12 false rfl (fun hg => (.cons hg .nil)) ?_
 refine po 17 12 16 rfl rfl ?_
 refine jf (.d4 (.d (.k (.i 17 (vb (((decide (a0.length = 0)) || (decide (12 < a0.length))) || (!(((decide ((97 : Int) ≤ (((List.getD a0 0 0).toNat : Nat) : Int))) && (decide ((((List.getD a0 0 0).toNat : Nat) : Int) ≤ (122 : Int)))) || ((decide ((65 : Int) ≤ (((List.getD a0 0 0).toNat : Nat) : Int))) && (decide ((((List.getD a0 0 0).toNat : Nat) : Int) ≤ (90 : Int)))))))) .n)))) ?_
 refine tc h (fun c2 h => ?_) (fun c2 h => ?_)
 ·refine sk (.i 2 (vb false) .n) ?_
  refine q3 ?_
  have h := si h
  subst h
  exact DoneS.ret Sees.refl rfl rfl
 refine q2 ?_
 refine TriE.seqK h (fun (_ : Unit) => St.mk [] []) ?_ ?_
 ·rintro ⟨⟩ h
  refine sk (.i 2 (vb true) .n) ?_
  refine q3 ?_
  have h := si h
  subst h
  exact DoneS.ret Sees.refl rfl rfl
 intro k1 h
 refine sk (.k (.i 3 (vi 0) .n)) ?_
 refine q4 ?_
 refine ts (.k (.i 3 (vi 0) .n)) ?_
 refine TriE.loopN h (fun (v4 : Nat) => St.mk [(0, vt a0), (3, vi v4)] []) rfl ?_
 clear h
 rintro back v4 h
 dsimp only [agraffebase_IsName_L1] at h
 refine q1 ?_
 refine sj ?_
 refine rk 2 (.k2 (.i 18 (vi v4) (.i 19 (vt a0) .n))) ?_
 refine jo 20 (.len 1 19) (ok_len_t rfl) ?_
 refine jo 21 (.bin .lss false 18 20) (n_lss (i := v4) (j := a0.length) rfl rfl) ?_
 refine jf (.d2 (.k2 (.i 21 (vb (decide (v4 < a0.length))) .n))) ?_
 refine tc h (fun c3 h => ?_) (fun c3 h => ?_)
 ·refine q2 ?_
  refine q7 ?_
  refine sj ?_
  refine rk 2 (.k2 (.i 24 (vt a0) (.i 25 (vi v4) .n))) ?_
  refine jo 26 (.sidx 24 25) (ok_sidx_t (j := v4) rfl rfl rfl c3) ?_
  refine bK h fun y5 hy5 h => ?_
  refine jc 27 [26] (agraffebase_isLetter_ok n (((List.getD a0 v4 0).toNat : Nat) : Int) y5 hy5) ?_
  refine rk 2 (.d2 (.k2 (.i 29 (vb (!(((decide ((97 : Int) ≤ (((List.getD a0 v4 0).toNat : Nat) : Int))) && (decide ((((List.getD a0 v4 0).toNat : Nat) : Int) ≤ (122 : Int)))) || ((decide ((65 : Int) ≤ (((List.getD a0 v4 0).toNat : Nat) : Int))) && (decide ((((List.getD a0 v4 0).toNat : Nat) : Int) ≤ (90 : Int))))))) .n))) ?_
  refine gj (vt a0) 30 (.mov 0) 29 true rfl ?_
  refine gj (vi v4) 31 (.mov 3) 29 true rfl ?_
  refine gv 32 (.sidx 30 31) 29 true rfl (fun hg => (ok_sidx_t (j := v4) rfl rfl rfl c3)) (fun hg => (.cons hg (.cons hg .nil))) ?_
  refine bK h fun y6 hy6 h => ?_
  refine gc 33 [32] 29 true rfl (fun hg => agraffebase_isDigit_ok n (((List.getD a0 v4 0).toNat : Nat) : Int) y6 (gcall_some hy6 hg)) (fun hg => (.cons rfl (.cons hg .nil))) (fun hg => by kernel_rfl) ?_
  refine gk (vb (!((decide ((48 : Int) ≤ (((List.getD a0 v4 0).toNat : Nat) : Int))) && (decide ((((List.getD a0 v4 0).toNat : Nat) : Int) ≤ (57 : Int)))))) 34 (.un .not 33) 29 true rfl (fun hg => (.cons hg .nil)) ?_
  refine pa 35 29 34 rfl rfl ?_
  refine rk 1 (.d4 (.d2 (.k2 (.i 30 (.cond (!(((decide ((97 : Int) ≤ (((List.getD a0 v4 0).toNat : Nat) : Int))) && (decide ((((List.getD a0 v4 0).toNat : Nat) : Int) ≤ (122 : Int)))) || ((decide ((65 : Int) ≤ (((List.getD a0 v4 0).toNat : Nat) : Int))) && (decide ((((List.getD a0 v4 0).toNat : Nat) : Int) ≤ (90 : Int)))))) (vt a0)) (.i 31 (.cond (!(((decide ((97 : Int) ≤ (((List.getD a0 v4 0).toNat : Nat) : Int))) && (decide ((((List.getD a0 v4 0).toNat : Nat) : Int) ≤ (122 : Int)))) || ((decide ((65 : Int) ≤ (((List.getD a0 v4 0).toNat : Nat) : Int))) && (decide ((((List.getD a0 v4 0).toNat : Nat) : Int) ≤ (90 : Int)))))) (vi v4)) (.i 32 (.cond (!(((decide ((97 : Int) ≤ (((List.getD a0 v4 0).toNat : Nat) : Int))) && (decide ((((List.getD a0 v4 0).toNat : Nat) : Int) ≤ (122 : Int)))) || ((decide ((65 : Int) ≤ (((List.getD a0 v4 0).toNat : Nat) : Int))) && (decide ((((List.getD a0 v4 0).toNat : Nat) : Int) ≤ (90 : Int)))))) (vk .u8 (((List.getD a0 v4 0).toNat : Nat) : Int))) (.i 33 (.cond (!(((decide ((97 : Int) ≤ (((List.getD a0 v4 0).toNat : Nat) : Int))) && (decide ((((List.getD a0 v4 0).toNat : Nat) : Int) ≤ (122 : Int)))) || ((decide ((65 : Int) ≤ (((List.getD a0 v4 0).toNat : Nat) : Int))) && (decide ((((List.getD a0 v4 0).toNat : Nat) : Int) ≤ (90 : Int)))))) (vb ((decide ((48 : Int) ≤ (((List.getD a0 v4 0).toNat : Nat) : Int))) && (decide ((((List.getD a0 v4 0).toNat : Nat) : Int) ≤ (57 : Int)))))) (.i 34 (.cond (!(((decide ((97 : Int) ≤ (((List.getD a0 v4 0).toNat : Nat) : Int))) && (decide ((((List.getD a0 v4 0).toNat : Nat) : Int) ≤ (122 : Int)))) || ((decide ((65 : Int) ≤ (((List.getD a0 v4 0).toNat : Nat) : Int))) && (decide ((((List.getD a0 v4 0).toNat : Nat) : Int) ≤ (90 : Int)))))) (vb (!((decide ((48 : Int) ≤ (((List.getD a0 v4 0).toNat : Nat) : Int))) && (decide ((((List.getD a0 v4 0).toNat : Nat) : Int) ≤ (57 : Int))))))) (.i 36 (vb ((!(((decide ((97 : Int) ≤ (((List.getD a0 v4 0).toNat : Nat) : Int))) && (decide ((((List.getD a0 v4 0).toNat : Nat) : Int) ≤ (122 : Int)))) || ((decide ((65 : Int) ≤ (((List.getD a0 v4 0).toNat : Nat) : Int))) && (decide ((((List.getD a0 v4 0).toNat : Nat) : Int) ≤ (90 : Int)))))) && (!((decide ((48 : Int) ≤ (((List.getD a0 v4 0).toNat : Nat) : Int))) && (decide ((((List.getD a0 v4 0).toNat : Nat) : Int) ≤ (57 : Int))))))) .n))))))))) ?_
  refine gj (vt a0) 37 (.mov 0) 36 true rfl ?_
  refine gj (vi v4) 38 (.mov 3) 36 true rfl ?_
  refine gv 39 (.sidx 37 38) 36 true rfl (fun hg => (ok_sidx_t (j := v4) rfl rfl rfl c3)) (fun hg => (.cons hg (.cons hg .nil))) ?_
  refine gk (vb ((((List.getD a0 v4 0).toNat : Nat) : Int) != (45 : Int))) 40 (.bin .neq false 39 (.c (.p (.int .u8 45)))) 36 true rfl (fun hg => (.cons hg (.cons rfl .nil))) ?_
  refine pa 41 36 40 rfl rfl ?_
  refine jf (.d4 (.d (.k2 (.i 41 (vb (((!(((decide ((97 : Int) ≤ (((List.getD a0 v4 0).toNat : Nat) : Int))) && (decide ((((List.getD a0 v4 0).toNat : Nat) : Int) ≤ (122 : Int)))) || ((decide ((65 : Int) ≤ (((List.getD a0 v4 0).toNat : Nat) : Int))) && (decide ((((List.getD a0 v4 0).toNat : Nat) : Int) ≤ (90 : Int)))))) && (!((decide ((48 : Int) ≤ (((List.getD a0 v4 0).toNat : Nat) : Int))) && (decide ((((List.getD a0 v4 0).toNat : Nat) : Int) ≤ (57 : Int)))))) && ((((List.getD a0 v4 0).toNat : Nat) : Int) != (45 : Int)))) .n)))) ?_
  refine tc h (fun c4 h => ?_) (fun c4 h => ?_)
  ·refine sk (.i 2 (vb false) .n) ?_
   refine q3 ?_
   have h := si h
   subst h
   exact DoneS.ret Sees.refl rfl rfl
  refine q2 ?_
  refine q6 ?_
  refine rk 1 (.k (.i 22 (vi v4) .n)) ?_
  refine cK h fun c5 h => ?_
  refine jo 23 (.bin .add false 22 (ki 1)) (r_addn (i := v4) (j := 1) rfl rfl c5) ?_
  refine jk 1 (.d (.k (.i 3 (vi ((v4 + 1 : Nat) : Int)) .n))) ?_
  exact Vs.intro sy ⟨(v4 + 1), rfl, h⟩
 refine q5 ?_
 exact Vs.intro sy ⟨(), rfl, h⟩
theorem agraffebase_HasText_ok (n : Nat) (a0 : List Str) (a1 : Str) (r : Bool) (h : agraffebase_HasText n a0 a1 = some r) : FnL Try.prog 71 [eS 1 vt a0, vt a1] [] (vb r) [] := by
 dsimp only [agraffebase_HasText] at h
 refine fo [4] Try.call71 Try.func71 rfl ?_
 refine sk .a ?_
 refine TriE.seqK h (fun (_ : Unit) => St.mk [] []) ?_ ?_
 ·rintro ⟨⟩ h
  refine sk (.i 4 (vb false) .n) ?_
  refine q3 ?_
  have h := si h
  subst h
  exact DoneS.ret Sees.refl rfl rfl
 intro k1 h
 refine sk (.k2 (.i 5 (vi 0) .n)) ?_
 refine q4 ?_
 refine ts (.k2 (.i 5 (vi 0) .n)) ?_
 refine TriE.loopN h (fun (v1 : Nat) => St.mk [(0, eS 1 vt a0), (1, vt a1), (5, vi v1)] []) rfl ?_
 clear h
 rintro back v1 h
 dsimp only [agraffebase_HasText_L1] at h
 refine q1 ?_
 refine sj ?_
 refine rk 2 (.k3 (.i 6 (vi v1) (.i 7 (eS 1 vt a0) .n))) ?_
 refine jo 8 (.len 0 7) (ok_len_m rfl) ?_
 refine jo 9 (.bin .lss false 6 8) (n_lss (i := v1) (j := a0.length) rfl rfl) ?_
 refine jf (.d2 (.k3 (.i 9 (vb (decide (v1 < a0.length))) .n))) ?_
 refine tc h (fun c1 h => ?_) (fun c1 h => ?_)
 ·refine q2 ?_
  refine q7 ?_
  refine sj ?_
  refine rk 2 (.k3 (.i 12 (eS 1 vt a0) (.i 13 (vi v1) .n))) ?_
  refine jo 14 (.iaddr 1 12 13) (ok_iaddr_m (j := v1) rfl rfl rfl c1) ?_
  refine jo 15 (.load false 1 14) (ok_load_fm (v := vt (ix a0 v1)) rfl c1 rfl) ?_
  refine jk 2 (.d2 (.k3 (.i 17 (vb ((ix a0 v1) == a1)) .n))) ?_
  refine tc h (fun c2 h => ?_) (fun c2 h => ?_)
  ·refine sk (.i 4 (vb true) .n) ?_
   refine q3 ?_
   have h := si h
   subst h
   exact DoneS.ret Sees.refl rfl rfl
  refine q2 ?_
  refine q6 ?_
  refine rk 1 (.k2 (.i 10 (vi v1) .n)) ?_
  refine cK h fun c3 h => ?_
  refine jo 11 (.bin .add false 10 (ki 1)) (r_addn (i := v1) (j := 1) rfl rfl c3) ?_
  refine jk 1 (.d (.k2 (.i 5 (vi ((v1 + 1 : Nat) : Int)) .n))) ?_
  exact Vs.intro sy ⟨(v1 + 1), rfl, h⟩
 refine q5 ?_
 exact Vs.intro sy ⟨(), rfl, h⟩
theorem agrafferef09_names_ok (n : Nat) (a0 : List Str) (a1 : Int) (r : Int) (h : agrafferef09_names n a0 a1 = some r) : FnL Try.prog 61 [eS 1 vt a0, vi a1] [] (vi r) [] := by
 dsimp only [agrafferef09_names] at h
 refine fo [4] Try.call61 Try.func61 rfl ?_
 refine sk .a ?_
 refine q1 ?_
 refine sj ?_
 refine rk 1 (.k2 (.i 6 (eS 1 vt a0) .n)) ?_
 refine jo 7 (.len 0 6) (ok_len_m rfl) ?_
 refine jk 2 (.d (.k (.i 9 (vb (decide (a1 < (a0.length : Int)))) .n))) ?_
 refine tc h (fun c1 h => ?_) (fun c1 h => ?_)
 ·refine sk (.i 4 (vi 8) .n) ?_
  refine q3 ?_
  have h := si h
  subst h
  exact DoneS.ret Sees.refl rfl rfl
 refine q2 ?_
 refine TriE.seqK h (fun (_ : Unit) => St.mk [] []) ?_ ?_
 ·rintro ⟨⟩ h
  refine sk (.i 4 (vi 0) .n) ?_
  refine q3 ?_
  have h := si h
  subst h
  exact DoneS.ret Sees.refl rfl rfl
 intro k1 h
 refine sk (.k (.i 5 (vi 0) .n)) ?_
 refine q4 ?_
 refine ts (.k (.i 5 (vi 0) .n)) ?_
 refine TriE.loopN h (fun (v3 : Nat) => St.mk [(0, eS 1 vt a0), (5, vi v3)] []) rfl ?_
 clear h
 rintro back v3 h
 dsimp only [agrafferef09_names_L1] at h
 refine q1 ?_
 refine sj ?_
 refine rk 2 (.k2 (.i 10 (vi v3) (.i 11 (eS 1 vt a0) .n))) ?_
 refine jo 12 (.len 0 11) (ok_len_m rfl) ?_
 refine jo 13 (.bin .lss false 10 12) (n_lss (i := v3) (j := a0.length) rfl rfl) ?_
 refine jf (.d2 (.k2 (.i 13 (vb (decide (v3 < a0.length))) .n))) ?_
 refine tc h (fun c2 h => ?_) (fun c2 h => ?_)
 ·refine q2 ?_
  refine q7 ?_
  refine q1 ?_
  refine sj ?_
  refine rk 2 (.k2 (.i 16 (eS 1 vt a0) (.i 17 (vi v3) .n))) ?_
  refine jo 18 (.iaddr 1 16 17) (ok_iaddr_m (j := v3) rfl rfl rfl c2) ?_
  refine jo 19 (.load false 1 18) (ok_load_fm (v := vt (ix a0 v3)) rfl c2 rfl) ?_
  refine bK h fun y4 hy4 h => ?_
  refine jc 20 [19] (agraffebase_IsName_ok n (ix a0 v3) y4 hy4) ?_
  refine jk 1 (.d3 (.k2 (.i 21 (vb (!y4)) .n))) ?_
  refine tc h (fun c3 h => ?_) (fun c3 h => ?_)
  ·refine sk (.i 4 (vi 4) .n) ?_
   refine q3 ?_
   have h := si h
   subst h
   exact DoneS.ret Sees.refl rfl rfl
  refine q2 ?_
  refine q1 ?_
  refine ts (.k2 .n) ?_
  refine TriE.draw (by kernel_rfl) ?_
  refine dk 2 (.i 23 (vi v3) (.i 22 (eS 1 vt a0) .a)) ?_
  refine cK h fun c4 h => ?_
  refine dp 24 (.slc 1 22 none (some 23) none) (ok_slc_hi (j := v3) rfl rfl rfl c4) ?_
  refine dk 2 (.i 26 (vi v3) (.i 25 (eS 1 vt a0) .a)) ?_
  refine dp 27 (.iaddr 1 25 26) (ok_iaddr_m (j := v3) rfl rfl rfl c2) ?_
  refine dp 28 (.load false 1 27) (ok_load_fm (v := vt (ix a0 v3)) rfl c2 rfl) ?_
  refine bK h fun y5 hy5 h => ?_
  refine dc (vb y5) 0 29 [24, 28] (agraffebase_HasText_ok n (List.take v3 a0) (ix a0 v3) y5 hy5) [] rfl ObsRen.nil ObsRen.nil rfl (.inr ⟨rfl, rfl⟩) ?_
  refine dfi (.d4 (.d4 (.k2 (.i 29 (vb y5) .n)))) [] ObRen.nil ?_
  refine tc h (fun c5 h => ?_) (fun c5 h => ?_)
  ·refine sk (.i 4 (vi 5) .n) ?_
   refine q3 ?_
   have h := si h
   subst h
   exact DoneS.ret Sees.refl rfl rfl
  refine q2 ?_
  refine q6 ?_
  refine rk 1 (.k (.i 14 (vi v3) .n)) ?_
  refine cK h fun c6 h => ?_
  refine jo 15 (.bin .add false 14 (ki 1)) (r_addn (i := v3) (j := 1) rfl rfl c6) ?_
  refine jk 1 (.d (.k (.i 5 (vi ((v3 + 1 : Nat) : Int)) .n))) ?_
  exact Vs.intro sy ⟨(v3 + 1), rfl, h⟩
 refine q5 ?_
 exact Vs.intro sy ⟨(), rfl, h⟩
theorem agrafferef09_place_ok (n : Nat) (a0 : Diary) (a1 : Str) (r : Int) (h : agrafferef09_place n a0 a1 = some r) : FnL Try.prog 62 [.agg [eS 1 vt a0.Places, eS 1 vt a0.Technicians, eS 4 eRoad a0.Roads, eS 3 eGrand a0.Grands, vi a0.Change, vi a0.Lasts], vt a1] [] (vi r) [] := by
 dsimp only [agrafferef09_place] at h
 refine fo [4] Try.call62 Try.func62 rfl ?_
 refine sko (.d (.k (.i 2 (.ptr 0 0 0) .n))) [some (.row 6 [.agg [eS 1 vt a0.Places, eS 1 vt a0.Technicians, eS 4 eRoad a0.Roads, eS 3 eGrand a0.Grands, vi a0.Change, vi a0.Lasts]])] ?_
 refine TriE.seqK h (fun (_ : Unit) => St.mk [] []) ?_ ?_
 ·rintro ⟨⟩ h
  refine sk (.i 4 (vi (-1)) .n) ?_
  refine q3 ?_
  have h := si h
  subst h
  exact DoneS.ret Sees.refl rfl rfl
 intro k1 h
 refine sk (.k2 (.i 5 (vi 0) .n)) ?_
 refine q4 ?_
 refine ts (.k2 (.i 5 (vi 0) .n)) ?_
 refine TriE.loopN h (fun (v1 : Nat) => St.mk [(1, vt a1), (2, .ptr 0 0 0), (5, vi v1)] [some (.row 6 [.agg [eS 1 vt a0.Places, eS 1 vt a0.Technicians, eS 4 eRoad a0.Roads, eS 3 eGrand a0.Grands, vi a0.Change, vi a0.Lasts]])]) rfl ?_
 clear h
 rintro back v1 h
 dsimp only [agrafferef09_place_L1] at h
 refine q1 ?_
 refine sj ?_
 refine rk 3 (.k3 (.i 6 (vi v1) (.i 8 (eS 1 vt a0.Places) .n))) ?_
 refine jo 9 (.len 0 8) (ok_len_m rfl) ?_
 refine jo 10 (.bin .lss false 6 9) (n_lss (i := v1) (j := a0.Places.length) rfl rfl) ?_
 refine jf (.d2 (.k3 (.i 10 (vb (decide (v1 < a0.Places.length))) .n))) ?_
 refine tc h (fun c1 h => ?_) (fun c1 h => ?_)
 ·refine q2 ?_
  refine q7 ?_
  refine sj ?_
  refine rk 3 (.k3 (.i 14 (eS 1 vt a0.Places) (.i 15 (vi v1) .n))) ?_
  refine jo 16 (.iaddr 1 14 15) (ok_iaddr_m (j := v1) rfl rfl rfl c1) ?_
  refine jo 17 (.load false 1 16) (ok_load_fm (v := vt (ix a0.Places v1)) rfl c1 rfl) ?_
  refine jk 2 (.d2 (.k3 (.i 19 (vb ((ix a0.Places v1) == a1)) .n))) ?_
  refine tc h (fun c2 h => ?_) (fun c2 h => ?_)
  ·refine sk (.i 4 (vi v1) .n) ?_
   refine q3 ?_
   have h := si h
   subst h
   exact DoneS.ret (S' := ⟨[(4, vi v1)], []⟩) (sc [] (by decide) (by kernel_rfl) ObRen.nil rfl rfl) rfl rfl
  refine q2 ?_
  refine q6 ?_
  refine rk 1 (.k2 (.i 11 (vi v1) .n)) ?_
  refine cK h fun c3 h => ?_
  refine jo 12 (.bin .add false 11 (ki 1)) (r_addn (i := v1) (j := 1) rfl rfl c3) ?_
  refine jk 1 (.d (.k2 (.i 5 (vi ((v1 + 1 : Nat) : Int)) .n))) ?_
  exact Vs.intro sy ⟨(v1 + 1), rfl, h⟩
 refine q5 ?_
 exact Vs.intro (sc [] (by decide) (by kernel_rfl) ObRen.nil rfl rfl) ⟨(), rfl, h⟩
theorem agraffebase_Within_ok (n : Nat) (a0 : Int) (a1 : Int) (a2 : Int) (r : Unit) (h : agraffebase_Within n a0 a1 a2 = some r) : FnL Try.prog 48 [vi a0, vi a1, vi a2] [] (vb ((decide (a1 ≤ a0)) && (decide (a0 ≤ a2)))) [] := by
 dsimp only [agraffebase_Within] at h
 refine fo [6] Try.call48 Try.func48 rfl ?_
 refine sk .a ?_
 refine sj ?_
 refine rk 4 (.k (.d (.k (.i 10 (vb (decide (a1 ≤ a0))) .n)))) ?_
 refine gj (vi a0) 11 (.mov 0) 10 true rfl ?_
 refine gj (vi a2) 12 (.mov 2) 10 true rfl ?_
 refine gk (vb (decide (a0 ≤ a2))) 13 (.bin .leq false 11 12) 10 true rfl (fun hg => (.cons hg (.cons hg .nil))) ?_
 refine pa 14 10 13 rfl rfl ?_
 refine jk 1 (.i 6 (vb ((decide (a1 ≤ a0)) && (decide (a0 ≤ a2)))) .n) ?_
 refine q3 ?_
 have h := si h
 subst h
 exact DoneS.ret Sees.refl rfl rfl
theorem agrafferef09_IsWidth_ok (n : Nat) (a0 : Int) (r : Unit) (h : agrafferef09_IsWidth n a0 = some r) : FnL Try.prog 63 [vi a0] [] (vb ((decide (1 ≤ a0)) && (decide (a0 ≤ 10000)))) [] := by
 dsimp only [agrafferef09_IsWidth] at h
 refine fo [2] Try.call63 Try.func63 rfl ?_
 refine sk .a ?_
 refine sj ?_
 refine rk 1 (.i 3 (vi a0) .n) ?_
 refine bK h fun y1 hy1 h => ?_
 refine jc 4 [3, (ki 1), (ki 10000)] (agraffebase_Within_ok n a0 1 10000 y1 hy1) ?_
 refine jk 1 (.i 2 (vb ((decide (1 ≤ a0)) && (decide (a0 ≤ 10000)))) .n) ?_
 refine q3 ?_
 have h := si h
 subst h
 exact DoneS.ret Sees.refl rfl rfl
theorem agrafferef09_GrandAt_ok (n : Nat) (a0 : Diary) (a1 : Str) (r : Int) (h : agrafferef09_GrandAt n a0 a1 = some r) : FnL Try.prog 54 [.agg [eS 1 vt a0.Places, eS 1 vt a0.Technicians, eS 4 eRoad a0.Roads, eS 3 eGrand a0.Grands, vi a0.Change, vi a0.Lasts], vt a1] [] (vi r) [] := by
 dsimp only [agrafferef09_GrandAt] at h
 refine fo [4] Try.call54 Try.func54 rfl ?_
 refine sko (.d (.k (.i 2 (.ptr 0 0 0) .n))) [some (.row 6 [.agg [eS 1 vt a0.Places, eS 1 vt a0.Technicians, eS 4 eRoad a0.Roads, eS 3 eGrand a0.Grands, vi a0.Change, vi a0.Lasts]])] ?_
 refine TriE.seqK h (fun (_ : Unit) => St.mk [] []) ?_ ?_
 ·rintro ⟨⟩ h
  refine sk (.i 4 (vi (-1)) .n) ?_
  refine q3 ?_
  have h := si h
  subst h
  exact DoneS.ret Sees.refl rfl rfl
 intro k1 h
 refine sk (.k2 (.i 5 (vi 0) .n)) ?_
 refine q4 ?_
 refine ts (.k2 (.i 5 (vi 0) .n)) ?_
 refine TriE.loopN h (fun (v1 : Nat) => St.mk [(1, vt a1), (2, .ptr 0 0 0), (5, vi v1)] [some (.row 6 [.agg [eS 1 vt a0.Places, eS 1 vt a0.Technicians, eS 4 eRoad a0.Roads, eS 3 eGrand a0.Grands, vi a0.Change, vi a0.Lasts]])]) rfl ?_
 clear h
 rintro back v1 h
 dsimp only [agrafferef09_GrandAt_L1] at h
 refine q1 ?_
 refine sj ?_
 refine rk 3 (.k3 (.i 6 (vi v1) (.i 8 (eS 3 eGrand a0.Grands) .n))) ?_
 refine jo 9 (.len 0 8) (ok_len_m rfl) ?_
 refine jo 10 (.bin .lss false 6 9) (n_lss (i := v1) (j := a0.Grands.length) rfl rfl) ?_
 refine jf (.d2 (.k3 (.i 10 (vb (decide (v1 < a0.Grands.length))) .n))) ?_
 refine tc h (fun c1 h => ?_) (fun c1 h => ?_)
 ·refine q2 ?_
  refine q7 ?_
  refine sj ?_
  refine rk 3 (.k3 (.i 14 (eS 3 eGrand a0.Grands) (.i 15 (vi v1) .n))) ?_
  refine jo 16 (.iaddr 3 14 15) (ok_iaddr_m (j := v1) rfl rfl rfl c1) ?_
  refine rk 1 (.d (.k3 (.i 17 (.fptr 3 (List.map eGrand a0.Grands) v1 0) .n))) ?_
  refine jo 18 (.load false 1 17) (ok_load_fm (v := vt ((ix a0.Grands v1).Name)) rfl c1 rfl) ?_
  refine jk 2 (.d (.k3 (.i 20 (vb (((ix a0.Grands v1).Name) == a1)) .n))) ?_
  refine tc h (fun c2 h => ?_) (fun c2 h => ?_)
  ·refine sk (.i 4 (vi v1) .n) ?_
   refine q3 ?_
   have h := si h
   subst h
   exact DoneS.ret (S' := ⟨[(4, vi v1)], []⟩) (sc [] (by decide) (by kernel_rfl) ObRen.nil rfl rfl) rfl rfl
  refine q2 ?_
  refine q6 ?_
  refine rk 1 (.k2 (.i 11 (vi v1) .n)) ?_
  refine cK h fun c3 h => ?_
  refine jo 12 (.bin .add false 11 (ki 1)) (r_addn (i := v1) (j := 1) rfl rfl c3) ?_
  refine jk 1 (.d (.k2 (.i 5 (vi ((v1 + 1 : Nat) : Int)) .n))) ?_
  exact Vs.intro sy ⟨(v1 + 1), rfl, h⟩
 refine q5 ?_
 exact Vs.intro (sc [] (by decide) (by kernel_rfl) ObRen.nil rfl rfl) ⟨(), rfl, h⟩
set_option maxHeartbeats 1000000 in
theorem agrafferef09_CheckDiary_ok (n : Nat) (a0 : Diary) (r : Int) (h : agrafferef09_CheckDiary n a0 = some r) : FnL Try.prog 16 [.agg [eS 1 vt a0.Places, eS 1 vt a0.Technicians, eS 4 eRoad a0.Roads, eS 3 eGrand a0.Grands, vi a0.Change, vi a0.Lasts]] [] (vi r) [] := by
 dsimp only [agrafferef09_CheckDiary] at h
 refine fo [2] Try.call16 Try.func16 rfl ?_
 refine sko (.i 1 (.ptr 0 0 0) .n) [some (.row 6 [.agg [eS 1 vt a0.Places, eS 1 vt a0.Technicians, eS 4 eRoad a0.Roads, eS 3 eGrand a0.Grands, vi a0.Change, vi a0.Lasts]])] ?_
 refine q1 ?_
 refine sj ?_
 refine rk 2 (.k (.i 10 (eS 1 vt a0.Places) .n)) ?_
 refine bK h fun y1 hy1 h => ?_
 refine jc 11 [10, (ki 20)] (agrafferef09_names_ok n a0.Places 20 y1 hy1) ?_
 refine jk 1 (.d (.k (.i 3 (vi y1) .n))) ?_
 refine sk (.k2 (.i 13 (vb (y1 != (0 : Int))) .n)) ?_
 refine tc h (fun c1 h => ?_) (fun c1 h => ?_)
 ·refine sk (.i 2 (vi y1) .n) ?_
  refine q3 ?_
  have h := si h
  subst h
  exact DoneS.ret (S' := ⟨[(2, vi y1)], []⟩) (sc [] (by decide) (by kernel_rfl) ObRen.nil rfl rfl) rfl rfl
 refine q2 ?_
 refine q1 ?_
 refine sj ?_
 refine rk 2 (.k (.i 16 (eS 4 eRoad a0.Roads) .n)) ?_
 refine jo 17 (.len 0 16) (ok_len_m rfl) ?_
 refine jo 18 (.bin .gtr false 17 (ki 60)) (n_gtr (i := a0.Roads.length) (j := 60) rfl rfl) ?_
 refine jf (.d2 (.k (.i 18 (vb (decide (60 < a0.Roads.length))) .n))) ?_
 refine tc h (fun c2 h => ?_) (fun c2 h => ?_)
 ·refine sk (.i 2 (vi 8) .n) ?_
  refine q3 ?_
  have h := si h
  subst h
  exact DoneS.ret (S' := ⟨[(2, vi 8)], []⟩) (sc [] (by decide) (by kernel_rfl) ObRen.nil rfl rfl) rfl rfl
 refine q2 ?_
 refine TriE.seqK h (fun (_ : Unit) => St.mk [(1, .ptr 0 0 0)] [some (.row 6 [.agg [eS 1 vt a0.Places, eS 1 vt a0.Technicians, eS 4 eRoad a0.Roads, eS 3 eGrand a0.Grands, vi a0.Change, vi a0.Lasts]])]) ?_ ?_
 ·rintro ⟨⟩ h
  refine q1 ?_
  refine sj ?_
  refine rk 2 (.k (.i 59 (eS 3 eGrand a0.Grands) .n)) ?_
  refine jo 60 (.len 0 59) (ok_len_m rfl) ?_
  refine jo 61 (.bin .gtr false 60 (ki 12)) (n_gtr (i := a0.Grands.length) (j := 12) rfl rfl) ?_
  refine jf (.d2 (.k (.i 61 (vb (decide (12 < a0.Grands.length))) .n))) ?_
  refine tc h (fun c8 h => ?_) (fun c8 h => ?_)
  ·refine sk (.i 2 (vi 8) .n) ?_
   refine q3 ?_
   have h := si h
   subst h
   exact DoneS.ret (S' := ⟨[(2, vi 8)], []⟩) (sc [] (by decide) (by kernel_rfl) ObRen.nil rfl rfl) rfl rfl
  refine q2 ?_
  refine TriE.seqK h (fun (_ : Unit) => St.mk [(1, .ptr 0 0 0)] [some (.row 6 [.agg [eS 1 vt a0.Places, eS 1 vt a0.Technicians, eS 4 eRoad a0.Roads, eS 3 eGrand a0.Grands, vi a0.Change, vi a0.Lasts]])]) ?_ ?_
  ·rintro ⟨⟩ h
   refine q1 ?_
   refine sj ?_
   refine rk 2 (.k (.i 94 (eS 1 vt a0.Technicians) .n)) ?_
   refine bK h fun y20 hy20 h => ?_
   refine jc 95 [94, (ki 12)] (agrafferef09_names_ok n a0.Technicians 12 y20 hy20) ?_
   refine jk 1 (.d (.k (.i 8 (vi y20) .n))) ?_
   refine sk (.k2 (.i 97 (vb (y20 != (0 : Int))) .n)) ?_
   refine tc h (fun c15 h => ?_) (fun c15 h => ?_)
   ·refine sk (.i 2 (vi y20) .n) ?_
    refine q3 ?_
    have h := si h
    subst h
    exact DoneS.ret (S' := ⟨[(2, vi y20)], []⟩) (sc [] (by decide) (by kernel_rfl) ObRen.nil rfl rfl) rfl rfl
   refine q2 ?_
   refine q1 ?_
   refine sj ?_
   refine rk 2 (.k (.i 100 (vi a0.Change) .n)) ?_
   refine bK h fun y21 hy21 h => ?_
   refine jc 101 [100, (ki 0), (ki 1000)] (agraffebase_Within_ok n a0.Change 0 1000 y21 hy21) ?_
   refine rk 2 (.d (.k (.i 103 (vb (!((decide (0 ≤ a0.Change)) && (decide (a0.Change ≤ 1000))))) .n))) ?_
   refine gj (.ptr 0 0 5) 104 (.faddr 5 1) 103 false rfl ?_
   refine gk (vi a0.Lasts) 105 (.load false 1 104) 103 false rfl (fun hg => (.cons hg .nil)) ?_
   refine bK h fun y22 hy22 h => ?_
   refine gc 106 [105, (ki 0), (ki 100000)] 103 false rfl (fun hg => agraffebase_Within_ok n a0.Lasts 0 100000 y22 (gcall_some hy22 hg)) (fun hg => (.cons rfl (.cons hg (.cons rfl (.cons rfl .nil))))) (fun hg => by kernel_rfl) ?_
   refine gk (vb (!((decide (0 ≤ a0.Lasts)) && (decide (a0.Lasts ≤ 100000))))) 107 (.un .not 106) 103 false rfl (fun hg => (.cons hg .nil)) ?_
   refine po 108 103 107 rfl rfl ?_
   refine jf (.i 108 (vb ((!((decide (0 ≤ a0.Change)) && (decide (a0.Change ≤ 1000)))) || (!((decide (0 ≤ a0.Lasts)) && (decide (a0.Lasts ≤ 100000)))))) .n) ?_
   refine tc h (fun c16 h => ?_) (fun c16 h => ?_)
   ·refine sk (.i 2 (vi 2) .n) ?_
    refine q3 ?_
    have h := si h
    subst h
    exact DoneS.ret (S' := ⟨[(2, vi 2)], []⟩) (sc [] (by decide) (by kernel_rfl) ObRen.nil rfl rfl) rfl rfl
   refine q2 ?_
   refine sk (.i 2 (vi 0) .n) ?_
   refine q3 ?_
   have h := si h
   subst h
   exact DoneS.ret (S' := ⟨[(2, vi 0)], []⟩) (sc [] (by decide) (by kernel_rfl) ObRen.nil rfl rfl) rfl rfl
  intro k2 h
  refine sk (.k (.i 6 (vi 0) .n)) ?_
  refine q4 ?_
  refine ts (.k (.i 6 (vi 0) .n)) ?_
  refine TriE.loopN h (fun (v15 : Nat) => St.mk [(1, .ptr 0 0 0), (6, vi v15)] [some (.row 6 [.agg [eS 1 vt a0.Places, eS 1 vt a0.Technicians, eS 4 eRoad a0.Roads, eS 3 eGrand a0.Grands, vi a0.Change, vi a0.Lasts]])]) rfl ?_
  clear h
  rintro back v15 h
  dsimp only [agrafferef09_CheckDiary_L2] at h
  refine q1 ?_
  refine sj ?_
  refine rk 3 (.k2 (.i 62 (vi v15) (.i 64 (eS 3 eGrand a0.Grands) .n))) ?_
  refine jo 65 (.len 0 64) (ok_len_m rfl) ?_
  refine jo 66 (.bin .lss false 62 65) (n_lss (i := v15) (j := a0.Grands.length) rfl rfl) ?_
  refine jf (.d2 (.k2 (.i 66 (vb (decide (v15 < a0.Grands.length))) .n))) ?_
  refine tc h (fun c9 h => ?_) (fun c9 h => ?_)
  ·refine q2 ?_
   refine q7 ?_
   refine sj ?_
   refine rk 3 (.k2 (.i 70 (eS 3 eGrand a0.Grands) (.i 71 (vi v15) .n))) ?_
   refine jo 72 (.iaddr 3 70 71) (ok_iaddr_m (j := v15) rfl rfl rfl c9) ?_
   refine jo 73 (.load true 3 72) (ok_load_fm (v := .agg [vt ((ix a0.Grands v15).Name), vt ((ix a0.Grands v15).Place), vi ((ix a0.Grands v15).Width)]) rfl c9 rfl) ?_
   refine jko 2 (.d2 (.k2 (.i 7 (.ptr 1 0 0) .n))) [some (.row 6 [.agg [eS 1 vt a0.Places, eS 1 vt a0.Technicians, eS 4 eRoad a0.Roads, eS 3 eGrand a0.Grands, vi a0.Change, vi a0.Lasts]]), some (.row 3 [.agg [vt ((ix a0.Grands v15).Name), vt ((ix a0.Grands v15).Place), vi ((ix a0.Grands v15).Width)]])] ?_
   refine q1 ?_
   refine sj ?_
   refine rk 2 (.k3 (.i 75 (vt ((ix a0.Grands v15).Name)) .n)) ?_
   refine bK h fun y16 hy16 h => ?_
   refine jc 76 [75] (agraffebase_IsName_ok n ((ix a0.Grands v15).Name) y16 hy16) ?_
   refine jk 1 (.d (.k3 (.i 77 (vb (!y16)) .n))) ?_
   refine tc h (fun c10 h => ?_) (fun c10 h => ?_)
   ·refine sk (.i 2 (vi 4) .n) ?_
    refine q3 ?_
    have h := si h
    subst h
    exact DoneS.ret (S' := ⟨[(2, vi 4)], []⟩) (sc [] (by decide) (by kernel_rfl) ObRen.nil rfl rfl) rfl rfl
   refine q2 ?_
   refine q1 ?_
   refine sj ?_
   refine rk 3 (.k3 (.i 78 (.agg [eS 1 vt a0.Places, eS 1 vt a0.Technicians, eS 4 eRoad a0.Roads, eS 3 eGrand a0.Grands, vi a0.Change, vi a0.Lasts]) (.i 80 (vt ((ix a0.Grands v15).Name)) .n))) ?_
   refine bK h fun y17 hy17 h => ?_
   refine jc 81 [78, 80] (agrafferef09_GrandAt_ok n a0 ((ix a0.Grands v15).Name) y17 hy17) ?_
   refine jk 2 (.d (.k3 (.i 83 (vb (decide (y17 < (v15 : Int)))) .n))) ?_
   refine tc h (fun c11 h => ?_) (fun c11 h => ?_)
   ·refine sk (.i 2 (vi 5) .n) ?_
    refine q3 ?_
    have h := si h
    subst h
    exact DoneS.ret (S' := ⟨[(2, vi 5)], []⟩) (sc [] (by decide) (by kernel_rfl) ObRen.nil rfl rfl) rfl rfl
   refine q2 ?_
   refine q1 ?_
   refine sj ?_
   refine rk 3 (.k3 (.i 84 (.agg [eS 1 vt a0.Places, eS 1 vt a0.Technicians, eS 4 eRoad a0.Roads, eS 3 eGrand a0.Grands, vi a0.Change, vi a0.Lasts]) (.i 86 (vt ((ix a0.Grands v15).Place)) .n))) ?_
   refine bK h fun y18 hy18 h => ?_
   refine jc 87 [84, 86] (agrafferef09_place_ok n a0 ((ix a0.Grands v15).Place) y18 hy18) ?_
   refine jk 1 (.d (.k3 (.i 88 (vb (decide (y18 < (0 : Int)))) .n))) ?_
   refine tc h (fun c12 h => ?_) (fun c12 h => ?_)
   ·refine sk (.i 2 (vi 6) .n) ?_
    refine q3 ?_
    have h := si h
    subst h
    exact DoneS.ret (S' := ⟨[(2, vi 6)], []⟩) (sc [] (by decide) (by kernel_rfl) ObRen.nil rfl rfl) rfl rfl
   refine q2 ?_
   refine sj ?_
   refine rk 2 (.k2 (.i 90 (vi ((ix a0.Grands v15).Width)) .n)) ?_
   refine bK h fun y19 hy19 h => ?_
   refine jc 91 [90] (agrafferef09_IsWidth_ok n ((ix a0.Grands v15).Width) y19 hy19) ?_
   refine jk 1 (.d (.k2 (.i 92 (vb (!((decide (1 ≤ ((ix a0.Grands v15).Width))) && (decide (((ix a0.Grands v15).Width) ≤ 10000))))) .n))) ?_
   refine tc h (fun c13 h => ?_) (fun c13 h => ?_)
   ·refine sk (.i 2 (vi 2) .n) ?_
    refine q3 ?_
    have h := si h
    subst h
    exact DoneS.ret (S' := ⟨[(2, vi 2)], []⟩) (sc [] (by decide) (by kernel_rfl) ObRen.nil rfl rfl) rfl rfl
   refine q2 ?_
   refine q6 ?_
   refine rk 1 (.k (.i 67 (vi v15) .n)) ?_
   refine cK h fun c14 h => ?_
   refine jo 68 (.bin .add false 67 (ki 1)) (r_addn (i := v15) (j := 1) rfl rfl c14) ?_
   refine jk 1 (.d (.k (.i 6 (vi ((v15 + 1 : Nat) : Int)) .n))) ?_
   exact Vs.intro (sc [0] (by decide) (by kernel_rfl) (.cons rfl .nil) rfl rfl) ⟨(v15 + 1), rfl, h⟩
  refine q5 ?_
  exact Vs.intro sy ⟨(), rfl, h⟩
 intro k1 h
 refine sk (.k (.i 4 (vi 0) .n)) ?_
 refine q4 ?_
 refine ts (.k (.i 4 (vi 0) .n)) ?_
 refine TriE.loopN h (fun (v6 : Nat) => St.mk [(1, .ptr 0 0 0), (4, vi v6)] [some (.row 6 [.agg [eS 1 vt a0.Places, eS 1 vt a0.Technicians, eS 4 eRoad a0.Roads, eS 3 eGrand a0.Grands, vi a0.Change, vi a0.Lasts]])]) rfl ?_
 clear h
 rintro back v6 h
 dsimp only [agrafferef09_CheckDiary_L1] at h
 refine q1 ?_
 refine sj ?_
 refine rk 3 (.k2 (.i 19 (vi v6) (.i 21 (eS 4 eRoad a0.Roads) .n))) ?_
 refine jo 22 (.len 0 21) (ok_len_m rfl) ?_
 refine jo 23 (.bin .lss false 19 22) (n_lss (i := v6) (j := a0.Roads.length) rfl rfl) ?_
 refine jf (.d2 (.k2 (.i 23 (vb (decide (v6 < a0.Roads.length))) .n))) ?_
 refine tc h (fun c3 h => ?_) (fun c3 h => ?_)
 ·refine q2 ?_
  refine q7 ?_
  refine sj ?_
  refine rk 3 (.k2 (.i 27 (eS 4 eRoad a0.Roads) (.i 28 (vi v6) .n))) ?_
  refine jo 29 (.iaddr 4 27 28) (ok_iaddr_m (j := v6) rfl rfl rfl c3) ?_
  refine jo 30 (.load true 4 29) (ok_load_fm (v := .agg [vt ((ix a0.Roads v6).A), vt ((ix a0.Roads v6).B), vi ((ix a0.Roads v6).Minutes), vi ((ix a0.Roads v6).Width)]) rfl c3 rfl) ?_
  refine jko 2 (.d2 (.k2 (.i 5 (.ptr 1 0 0) .n))) [some (.row 6 [.agg [eS 1 vt a0.Places, eS 1 vt a0.Technicians, eS 4 eRoad a0.Roads, eS 3 eGrand a0.Grands, vi a0.Change, vi a0.Lasts]]), some (.row 4 [.agg [vt ((ix a0.Roads v6).A), vt ((ix a0.Roads v6).B), vi ((ix a0.Roads v6).Minutes), vi ((ix a0.Roads v6).Width)]])] ?_
  refine q1 ?_
  refine sj ?_
  refine rk 3 (.k3 (.i 31 (.agg [eS 1 vt a0.Places, eS 1 vt a0.Technicians, eS 4 eRoad a0.Roads, eS 3 eGrand a0.Grands, vi a0.Change, vi a0.Lasts]) (.i 33 (vt ((ix a0.Roads v6).A)) .n))) ?_
  refine bK h fun y7 hy7 h => ?_
  refine jc 34 [31, 33] (agrafferef09_place_ok n a0 ((ix a0.Roads v6).A) y7 hy7) ?_
  refine rk 2 (.d (.k3 (.i 36 (vb (decide (y7 < (0 : Int)))) .n))) ?_
  refine gj (.agg [eS 1 vt a0.Places, eS 1 vt a0.Technicians, eS 4 eRoad a0.Roads, eS 3 eGrand a0.Grands, vi a0.Change, vi a0.Lasts]) 37 (.load true 6 1) 36 false rfl ?_
  refine gj (.ptr 1 0 1) 38 (.faddr 1 5) 36 false rfl ?_
  refine gk (vt ((ix a0.Roads v6).B)) 39 (.load false 1 38) 36 false rfl (fun hg => (.cons hg .nil)) ?_
  refine bK h fun y8 hy8 h => ?_
  refine gc 40 [37, 39] 36 false rfl (fun hg => agrafferef09_place_ok n a0 ((ix a0.Roads v6).B) y8 (gcall_some hy8 hg)) (fun hg => (.cons rfl (.cons hg (.cons hg .nil)))) (fun hg => by kernel_rfl) ?_
  refine gk (vb (decide (y8 < (0 : Int)))) 41 (.bin .lss false 40 (ki 0)) 36 false rfl (fun hg => (.cons hg (.cons rfl .nil))) ?_
  refine po 42 36 41 rfl rfl ?_
  refine jf (.d4 (.d2 (.k3 (.i 42 (vb ((decide (y7 < (0 : Int))) || (decide (y8 < (0 : Int))))) .n)))) ?_
  refine tc h (fun c4 h => ?_) (fun c4 h => ?_)
  ·refine sk (.i 2 (vi 6) .n) ?_
   refine q3 ?_
   have h := si h
   subst h
   exact DoneS.ret (S' := ⟨[(2, vi 6)], []⟩) (sc [] (by decide) (by kernel_rfl) ObRen.nil rfl rfl) rfl rfl
  refine q2 ?_
  refine q1 ?_
  refine sk (.k3 (.i 47 (vb (((ix a0.Roads v6).A) == ((ix a0.Roads v6).B))) .n)) ?_
  refine tc h (fun c5 h => ?_) (fun c5 h => ?_)
  ·refine sk (.i 2 (vi 3) .n) ?_
   refine q3 ?_
   have h := si h
   subst h
   exact DoneS.ret (S' := ⟨[(2, vi 3)], []⟩) (sc [] (by decide) (by kernel_rfl) ObRen.nil rfl rfl) rfl rfl
  refine q2 ?_
  refine sj ?_
  refine rk 2 (.k3 (.i 49 (vi ((ix a0.Roads v6).Minutes)) .n)) ?_
  refine bK h fun y9 hy9 h => ?_
  refine jc 50 [49, (ki 1), (ki 10000)] (agraffebase_Within_ok n ((ix a0.Roads v6).Minutes) 1 10000 y9 hy9) ?_
  refine rk 2 (.d (.k3 (.i 52 (vb (!((decide (1 ≤ ((ix a0.Roads v6).Minutes))) && (decide (((ix a0.Roads v6).Minutes) ≤ 10000))))) .n))) ?_
  refine gj (.ptr 1 0 3) 53 (.faddr 3 5) 52 false rfl ?_
  refine gk (vi ((ix a0.Roads v6).Width)) 54 (.load false 1 53) 52 false rfl (fun hg => (.cons hg .nil)) ?_
  refine bK h fun y10 hy10 h => ?_
  refine gc 55 [54] 52 false rfl (fun hg => agrafferef09_IsWidth_ok n ((ix a0.Roads v6).Width) y10 (gcall_some hy10 hg)) (fun hg => (.cons rfl (.cons hg .nil))) (fun hg => by kernel_rfl) ?_
  refine gk (vb (!((decide (1 ≤ ((ix a0.Roads v6).Width))) && (decide (((ix a0.Roads v6).Width) ≤ 10000))))) 56 (.un .not 55) 52 false rfl (fun hg => (.cons hg .nil)) ?_
  refine po 57 52 56 rfl rfl ?_
  refine jf (.d4 (.d (.k2 (.i 57 (vb ((!((decide (1 ≤ ((ix a0.Roads v6).Minutes))) && (decide (((ix a0.Roads v6).Minutes) ≤ 10000)))) || (!((decide (1 ≤ ((ix a0.Roads v6).Width))) && (decide (((ix a0.Roads v6).Width) ≤ 10000)))))) .n)))) ?_
  refine tc h (fun c6 h => ?_) (fun c6 h => ?_)
  ·refine sk (.i 2 (vi 2) .n) ?_
   refine q3 ?_
   have h := si h
   subst h
   exact DoneS.ret (S' := ⟨[(2, vi 2)], []⟩) (sc [] (by decide) (by kernel_rfl) ObRen.nil rfl rfl) rfl rfl
  refine q2 ?_
  refine q6 ?_
  refine rk 1 (.k (.i 24 (vi v6) .n)) ?_
  refine cK h fun c7 h => ?_
  refine jo 25 (.bin .add false 24 (ki 1)) (r_addn (i := v6) (j := 1) rfl rfl c7) ?_
  refine jk 1 (.d (.k (.i 4 (vi ((v6 + 1 : Nat) : Int)) .n))) ?_
  exact Vs.intro (sc [0] (by decide) (by kernel_rfl) (.cons rfl .nil) rfl rfl) ⟨(v6 + 1), rfl, h⟩
 refine q5 ?_
 exact Vs.intro sy ⟨(), rfl, h⟩
theorem agraffebase_CopyTexts_ok (n : Nat) (a0 : List Str) (r : Unit) (h : agraffebase_CopyTexts n a0 = some r) : FnL Try.prog 28 [eS 1 vt a0] [] (eS 1 vt a0) [] := by
 dsimp only [agraffebase_CopyTexts] at h
 refine fo [2] Try.call28 Try.func28 rfl ?_
 refine sk .a ?_
 refine sj ?_
 refine rk 2 (.i 3 .emp (.i 4 (eS 1 vt a0) .n)) ?_
 refine cK h fun c1 h => ?_
 refine jx 5 (.app 1 16 3 4) _ (ok_app_emp (e := vt) (l := a0) (u := eS 1 vt a0) rfl rfl els_sl c1) rfl rfl ?_
 refine jk 1 (.i 2 (.own 0 0 a0.length) .n) ?_
 refine q3 ?_
 have h := si h
 subst h
 exact DoneS.ret (S' := ⟨[(2, eS 1 vt a0)], []⟩) (Sees.trans (Sees.freeze 0 (fr' := [(2, eS 1 vt a0)]) (ob' := [none]) rfl (frz_row vt_frzE _) (.cons (frz_full rfl) .nil) rfl) (sc [] (by decide) (by kernel_rfl) ObRen.nil rfl rfl)) rfl rfl
theorem agraffelaw09_town_ok (n : Nat) (a0 : Diary) (r : Unit) (h : agraffelaw09_town n a0 = some r) : FnL Try.prog 18 [.agg [eS 1 vt a0.Places, eS 1 vt a0.Technicians, eS 4 eRoad a0.Roads, eS 3 eGrand a0.Grands, vi a0.Change, vi a0.Lasts]] [] (.agg [eS 1 vt a0.Places, eS 1 vt a0.Technicians, eS 4 eRoad a0.Roads, eS 3 eGrand a0.Grands, vi a0.Change, vi a0.Lasts]) [] := by
 dsimp only [agraffelaw09_town] at h
 refine FnL.ofC [.cell 2 26] Try.call18 Try.func18 rfl .nil ?_ (hl := rfl)
 refine sko (.i 1 (.ptr 0 0 0) (.i 2 (.ptr 1 0 0) .n)) [some (.row 6 [.agg [eS 1 vt a0.Places, eS 1 vt a0.Technicians, eS 4 eRoad a0.Roads, eS 3 eGrand a0.Grands, vi a0.Change, vi a0.Lasts]]), some (.row 6 [.agg [.emp, .emp, .emp, .emp, vi 0, vi 0]])] ?_
 refine q1 ?_
 refine ts .a ?_
 refine TriE.draw (by kernel_rfl) ?_
 refine dk 2 (.i 4 (eS 1 vt a0.Places) (.i 3 (.ptr 0 0 0) .a)) ?_
 refine bK h fun y1 hy1 h => ?_
 refine dc (eS 1 vt a0.Places) 0 5 [4] (agraffebase_CopyTexts_ok n a0.Places y1 hy1) [] rfl ObsRen.nil ObsRen.nil rfl (.inr ⟨rfl, rfl⟩) ?_
 refine dk 2 (.i 7 (eS 1 vt a0.Technicians) (.i 6 (.ptr 0 0 1) .a)) ?_
 refine bK h fun y2 hy2 h => ?_
 refine dc (eS 1 vt a0.Technicians) 0 8 [7] (agraffebase_CopyTexts_ok n a0.Technicians y2 hy2) [] rfl ObsRen.nil ObsRen.nil rfl (.inr ⟨rfl, rfl⟩) ?_
 refine dk 3 (.i 11 (eS 4 eRoad a0.Roads) (.i 10 (.ptr 0 0 2) (.i 9 .emp .a))) ?_
 refine cK h fun c1 h => ?_
 refine dx 12 (.app 4 48 9 11) _ (ok_app_emp (e := eRoad) (l := a0.Roads) (u := eS 4 eRoad a0.Roads) rfl rfl els_sl c1) rfl rfl ?_
 refine dk 3 (.i 15 (eS 3 eGrand a0.Grands) (.i 14 (.ptr 0 0 3) (.i 13 .emp .a))) ?_
 refine cK h fun c2 h => ?_
 refine dx 16 (.app 3 40 13 15) _ (ok_app_emp (e := eGrand) (l := a0.Grands) (u := eS 3 eGrand a0.Grands) rfl rfl els_sl c2) rfl rfl ?_
 refine dko 6 (.i 21 (.agg [eS 1 vt a0.Places, eS 1 vt a0.Technicians, .own 11 0 a0.Roads.length, .own 15 0 a0.Grands.length, vi a0.Change, vi a0.Lasts]) (.i 20 (vi a0.Lasts) (.i 19 (.ptr 0 0 5) (.i 18 (vi a0.Change) (.i 17 (.ptr 0 0 4) .a))))) [some (.row 6 [.agg [eS 1 vt a0.Places, eS 1 vt a0.Technicians, eS 4 eRoad a0.Roads, eS 3 eGrand a0.Grands, vi a0.Change, vi a0.Lasts]]), some (.row 6 [.agg [eS 1 vt a0.Places, eS 1 vt a0.Technicians, .own 11 0 a0.Roads.length, .own 15 0 a0.Grands.length, vi a0.Change, vi a0.Lasts]]), none, none, none, none, none, none, none, none, none, some (.row 4 (List.map eRoad a0.Roads)), none, none, none, some (.row 3 (List.map eGrand a0.Grands)), none, none, none, none, none, none] ?_
 refine dfi (ob' := [some (.row 6 [.agg [eS 1 vt a0.Places, eS 1 vt a0.Technicians, .own 1 0 a0.Roads.length, .own 2 0 a0.Grands.length, vi a0.Change, vi a0.Lasts]]), some (.row 4 (List.map eRoad a0.Roads)), some (.row 3 (List.map eGrand a0.Grands))]) (.i 2 (.ptr 0 0 0) .n) [1, 11, 15] (.cons rfl (obRen_row eRoad_frz rfl (obRen_row eGrand_frz rfl .nil))) ?_
 refine q3 ?_
 have h := si h
 subst h
 exact DoneC.ret (S' := ⟨[(2, .agg [eS 1 vt a0.Places, eS 1 vt a0.Technicians, eS 4 eRoad a0.Roads, eS 3 eGrand a0.Grands, vi a0.Change, vi a0.Lasts])], []⟩) [.agg [eS 1 vt a0.Places, eS 1 vt a0.Technicians, .own 1 0 a0.Roads.length, .own 2 0 a0.Grands.length, vi a0.Change, vi a0.Lasts]] (Sees.trans (Sees.freeze 2 (fr' := [(2, .agg [eS 1 vt a0.Places, eS 1 vt a0.Technicians, .own 1 0 a0.Roads.length, eS 3 eGrand a0.Grands, vi a0.Change, vi a0.Lasts])]) (ob' := [some (.row 6 [.agg [eS 1 vt a0.Places, eS 1 vt a0.Technicians, .own 1 0 a0.Roads.length, .own 2 0 a0.Grands.length, vi a0.Change, vi a0.Lasts]]), some (.row 4 (List.map eRoad a0.Roads)), none]) rfl (frz_row eGrand_frzE _) (.cons (frz_agg (.cons (.refl _) (.cons (.refl _) (.cons (.refl _) (.cons (frz_full rfl) (.cons (.refl _) (.cons (.refl _) .nil))))))) .nil) rfl) (Sees.trans (Sees.freeze 1 (fr' := [(2, .agg [eS 1 vt a0.Places, eS 1 vt a0.Technicians, eS 4 eRoad a0.Roads, eS 3 eGrand a0.Grands, vi a0.Change, vi a0.Lasts])]) (ob' := [some (.row 6 [.agg [eS 1 vt a0.Places, eS 1 vt a0.Technicians, .own 1 0 a0.Roads.length, .own 2 0 a0.Grands.length, vi a0.Change, vi a0.Lasts]]), none, none]) rfl (frz_row eRoad_frzE _) (.cons (frz_agg (.cons (.refl _) (.cons (.refl _) (.cons (frz_full rfl) (.cons (.refl _) (.cons (.refl _) (.cons (.refl _) .nil))))))) .nil) rfl) (sc [] (by decide) (by kernel_rfl) ObRen.nil rfl rfl))) rfl rfl
theorem agrafferef09_CheckPlace_ok (n : Nat) (a0 : Diary) (a1 : Str) (r : Int) (h : agrafferef09_CheckPlace n a0 a1 = some r) : FnL Try.prog 86 [.agg [eS 1 vt a0.Places, eS 1 vt a0.Technicians, eS 4 eRoad a0.Roads, eS 3 eGrand a0.Grands, vi a0.Change, vi a0.Lasts], vt a1] [] (vi r) [] := by
 dsimp only [agrafferef09_CheckPlace] at h
 refine fo [4] Try.call86 Try.func86 rfl ?_
 refine sko (.d (.k (.i 2 (.ptr 0 0 0) .n))) [some (.row 6 [.agg [eS 1 vt a0.Places, eS 1 vt a0.Technicians, eS 4 eRoad a0.Roads, eS 3 eGrand a0.Grands, vi a0.Change, vi a0.Lasts]])] ?_
 refine q1 ?_
 refine sj ?_
 refine rk 2 (.i 5 (.agg [eS 1 vt a0.Places, eS 1 vt a0.Technicians, eS 4 eRoad a0.Roads, eS 3 eGrand a0.Grands, vi a0.Change, vi a0.Lasts]) (.i 6 (vt a1) .n)) ?_
 refine bK h fun y1 hy1 h => ?_
 refine jc 7 [5, 6] (agrafferef09_place_ok n a0 a1 y1 hy1) ?_
 refine jk 1 (.i 8 (vb (decide (y1 < (0 : Int)))) .n) ?_
 refine tc h (fun c1 h => ?_) (fun c1 h => ?_)
 ·refine sk (.i 4 (vi 6) .n) ?_
  refine q3 ?_
  have h := si h
  subst h
  exact DoneS.ret (S' := ⟨[(4, vi 6)], []⟩) (sc [] (by decide) (by kernel_rfl) ObRen.nil rfl rfl) rfl rfl
 refine q2 ?_
 refine sk (.i 4 (vi 0) .n) ?_
 refine q3 ?_
 have h := si h
 subst h
 exact DoneS.ret (S' := ⟨[(4, vi 0)], []⟩) (sc [] (by decide) (by kernel_rfl) ObRen.nil rfl rfl) rfl rfl
theorem agrafferef09_CheckEnds_ok (n : Nat) (a0 : Diary) (a1 : List Str) (a2 : Int) (r : Int) (h : agrafferef09_CheckEnds n a0 a1 a2 = some r) : FnL Try.prog 31 [.agg [eS 1 vt a0.Places, eS 1 vt a0.Technicians, eS 4 eRoad a0.Roads, eS 3 eGrand a0.Grands, vi a0.Change, vi a0.Lasts], eS 1 vt a1, vi a2] [] (vi r) [] := by
 dsimp only [agrafferef09_CheckEnds] at h
 refine fo [6] Try.call31 Try.func31 rfl ?_
 refine sko (.d (.k2 (.i 3 (.ptr 0 0 0) .n))) [some (.row 6 [.agg [eS 1 vt a0.Places, eS 1 vt a0.Technicians, eS 4 eRoad a0.Roads, eS 3 eGrand a0.Grands, vi a0.Change, vi a0.Lasts]])] ?_
 refine TriE.seqK h (fun (_ : Unit) => St.mk [(2, vi a2)] []) ?_ ?_
 ·rintro ⟨⟩ h
  refine q1 ?_
  refine sj ?_
  refine rk 1 (.i 24 (vi a2) .n) ?_
  refine bK h fun y4 hy4 h => ?_
  refine jc 25 [24] (agrafferef09_IsWidth_ok n a2 y4 hy4) ?_
  refine jk 1 (.i 26 (vb (!((decide (1 ≤ a2)) && (decide (a2 ≤ 10000))))) .n) ?_
  refine tc h (fun c4 h => ?_) (fun c4 h => ?_)
  ·refine sk (.i 6 (vi 2) .n) ?_
   refine q3 ?_
   have h := si h
   subst h
   exact DoneS.ret Sees.refl rfl rfl
  refine q2 ?_
  refine sk (.i 6 (vi 0) .n) ?_
  refine q3 ?_
  have h := si h
  subst h
  exact DoneS.ret Sees.refl rfl rfl
 intro k1 h
 refine sk (.k3 (.i 7 (vi 0) .n)) ?_
 refine q4 ?_
 refine ts (.k3 (.i 7 (vi 0) .n)) ?_
 refine TriE.loopN h (fun (v2 : Nat) => St.mk [(1, eS 1 vt a1), (2, vi a2), (3, .ptr 0 0 0), (7, vi v2)] [some (.row 6 [.agg [eS 1 vt a0.Places, eS 1 vt a0.Technicians, eS 4 eRoad a0.Roads, eS 3 eGrand a0.Grands, vi a0.Change, vi a0.Lasts]])]) rfl ?_
 clear h
 rintro back v2 h
 dsimp only [agrafferef09_CheckEnds_L1] at h
 refine q1 ?_
 refine sj ?_
 refine rk 2 (.k4 (.i 9 (vi v2) (.i 10 (eS 1 vt a1) .n))) ?_
 refine jo 11 (.len 0 10) (ok_len_m rfl) ?_
 refine jo 12 (.bin .lss false 9 11) (n_lss (i := v2) (j := a1.length) rfl rfl) ?_
 refine jf (.d2 (.k4 (.i 12 (vb (decide (v2 < a1.length))) .n))) ?_
 refine tc h (fun c1 h => ?_) (fun c1 h => ?_)
 ·refine q2 ?_
  refine q7 ?_
  refine q1 ?_
  refine ts (.k4 .n) ?_
  refine TriE.draw (by kernel_rfl) ?_
  refine dk 3 (.i 17 (vi v2) (.i 16 (eS 1 vt a1) (.i 15 (.agg [eS 1 vt a0.Places, eS 1 vt a0.Technicians, eS 4 eRoad a0.Roads, eS 3 eGrand a0.Grands, vi a0.Change, vi a0.Lasts]) .a))) ?_
  refine dp 18 (.iaddr 1 16 17) (ok_iaddr_m (j := v2) rfl rfl rfl c1) ?_
  refine dp 19 (.load false 1 18) (ok_load_fm (v := vt (ix a1 v2)) rfl c1 rfl) ?_
  refine bK h fun y3 hy3 h => ?_
  refine dc (vi y3) 0 20 [15, 19] (agrafferef09_CheckPlace_ok n a0 (ix a1 v2) y3 hy3) [] rfl ObsRen.nil ObsRen.nil rfl (.inr ⟨rfl, rfl⟩) ?_
  refine dk 1 (.i 8 (vi y3) .a) ?_
  refine dfi (ob' := [some (.row 6 [.agg [eS 1 vt a0.Places, eS 1 vt a0.Technicians, eS 4 eRoad a0.Roads, eS 3 eGrand a0.Grands, vi a0.Change, vi a0.Lasts]])]) (.d4 (.d3 (.k4 (.i 8 (vi y3) .n)))) [0] (.cons rfl .nil) ?_
  refine sk (.k4 (.k (.i 22 (vb (y3 != (0 : Int))) .n))) ?_
  refine tc h (fun c2 h => ?_) (fun c2 h => ?_)
  ·refine sk (.i 6 (vi y3) .n) ?_
   refine q3 ?_
   have h := si h
   subst h
   exact DoneS.ret (S' := ⟨[(6, vi y3)], []⟩) (sc [] (by decide) (by kernel_rfl) ObRen.nil rfl rfl) rfl rfl
  refine q2 ?_
  refine q6 ?_
  refine rk 1 (.k3 (.i 13 (vi v2) .n)) ?_
  refine cK h fun c3 h => ?_
  refine jo 14 (.bin .add false 13 (ki 1)) (r_addn (i := v2) (j := 1) rfl rfl c3) ?_
  refine jk 1 (.d (.k3 (.i 7 (vi ((v2 + 1 : Nat) : Int)) .n))) ?_
  exact Vs.intro sy ⟨(v2 + 1), rfl, h⟩
 refine q5 ?_
 exact Vs.intro (sc [] (by decide) (by kernel_rfl) ObRen.nil rfl rfl) ⟨(), rfl, h⟩
theorem diary_Route_f1_ok (n : Nat) (a0 : Str) (a1 : List Str) (a2 : List Str) (a3 : List Road) (a4 : List Grand) (a5 : Int) (a6 : Int) (a7 : List (Int × List (Arr2_Str × Int))) (a8 : Str) (a9 : Int) (a10 : Str) (a11 : Str) (a12 : Int) (r : Bool × (List (Int × List (Arr2_Str × Int)))) (h : diary_Route_f1 n a0 a1 a2 a3 a4 a5 a6 a7 a8 a9 a10 a11 a12 = some r) : FnL Try.prog 88 [vt a0, .ptr 0 0 0, .ptr 3 0 0, .ptr 4 0 0, .ptr 5 0 0, .ptr 6 0 0] [some (.row 1 [.ptr 1 0 0]), some (.row 7 [.agg [eS 1 vt a1, eS 1 vt a2, eS 4 eRoad a3, eS 3 eGrand a4, vi a5, vi a6, .map 2]]), some (.mp (mpE vi (eM eArr2_Str vi) a7)), some (.row 1 [vt a8]), some (.row 1 [vi a9]), some (.row 2 [.agg [vt a10, vt a11]]), some (.row 1 [vi a12])] (vb r.1) [some (.row 1 [.ptr 1 0 0]), some (.row 7 [.agg [eS 1 vt a1, eS 1 vt a2, eS 4 eRoad a3, eS 3 eGrand a4, vi a5, vi a6, .map 2]]), some (.mp (mpE vi (eM eArr2_Str vi) r.2)), some (.row 1 [vt a8]), some (.row 1 [vi a9]), some (.row 2 [.agg [vt a10, vt a11]]), some (.row 1 [vi a12])] := by
 dsimp only [diary_Route_f1] at h
 refine fob [7] Try.call88 Try.func88 rfl (.cons rfl (.cons rfl (.cons rfl (.cons rfl (.cons rfl (.cons rfl (.cons rfl .nil))))))) ?_
 refine sk .a ?_
 refine sj ?_
 refine rk 4 (.k2 (.d (.k3 (.i 13 (.ptr 1 0 0) (.i 14 (vt a8) (.i 15 (vt a0) (.i 16 (vi a9) .n))))))) ?_
 refine bK h fun y1 hy1 h => ?_
 refine jco (.tup [vi y1.1, vb y1.2]) 17 [13, 14, 15, 16] (diary_plan_joined_ok n a1 a2 a3 a4 a5 a6 a7 a8 a0 a9 y1 hy1) [1, 2] rfl (.cons rfl (.same (mp_ren vi_frz (eM_frz eArr2_Str vi) _ _) .nil)) (.cons rfl (.same (mp_ren vi_frz (eM_frz eArr2_Str vi) _ _) .nil)) rfl ?_
 refine jk 5 (.d (.k4 (.k (.i 8 (vi y1.1) (.i 9 (vb y1.2) .n))))) ?_
 refine sj ?_
 refine rk 5 (.d4 (.k3 (.i 21 (.ptr 1 0 0) (.i 22 (vt a0) (.i 24 (vt a11) (.i 25 (vi a9) .n)))))) ?_
 refine bK h fun y2 hy2 h => ?_
 refine jco (.tup [vi y2.1, vb y2.2.1]) 26 [21, 22, 24, 25] (diary_plan_distance_ok n a1 a2 a3 a4 a5 a6 a7 a0 a11 a9 y2 hy2) [1, 2] rfl (.cons rfl (.same (mp_ren vi_frz (eM_frz eArr2_Str vi) _ _) .nil)) (.cons rfl (.same (mp_ren vi_frz (eM_frz eArr2_Str vi) _ _) .nil)) rfl ?_
 refine jk 5 (.d (.k3 (.i 10 (vi y2.1) (.i 11 (vb y2.2.1) .n)))) ?_
 refine sj ?_
 refine rk 2 (.k2 (.d (.k2 (.i 30 (vb y1.2) .n)))) ?_
 refine gj (vb y2.2.1) 31 (.mov 11) 30 true rfl ?_
 refine pa 32 30 31 rfl rfl ?_
 refine rk 1 (.d2 (.k3 (.i 33 (vb (y1.2 && y2.2.1)) .n))) ?_
 refine gj (vi y1.1) 34 (.mov 8) 33 true rfl ?_
 refine gj (vi y2.1) 35 (.mov 10) 33 true rfl ?_
 refine cK h fun c1 h => ?_
 refine gv 36 (.bin .add false 34 35) 33 true rfl (fun hg => (r_add rfl rfl (gor c1 hg))) (fun hg => (.cons hg (.cons hg .nil))) ?_
 refine gj (vi a12) 37 (.load false 1 5) 33 true rfl ?_
 refine gk (vb ((y1.1 + y2.1) == a12)) 38 (.bin .eql false 36 37) 33 true rfl (fun hg => (.cons hg (.cons hg .nil))) ?_
 refine pa 39 33 38 rfl rfl ?_
 refine jk 1 (.i 7 (vb ((y1.2 && y2.2.1) && ((y1.1 + y2.1) == a12))) .n) ?_
 refine q3 ?_
 have h := si h
 subst h
 exact DoneS.ret Sees.refl rfl rfl
theorem slices_IndexFunc_string_3_ok (n : Nat) (a0 : List Str) (a1 : List Str) (a2 : List Str) (a3 : List Road) (a4 : List Grand) (a5 : Int) (a6 : Int) (a7 : List (Int × List (Arr2_Str × Int))) (a8 : Str) (a9 : Int) (a10 : Str) (a11 : Str) (a12 : Int) (r : (List (Int × List (Arr2_Str × Int))) × Int) (h : slices_IndexFunc_string_3 n a0 a1 a2 a3 a4 a5 a6 a7 a8 a9 a10 a11 a12 = some r) : FnL Try.prog 87 [eS 1 vt a0, .fn (.func 88) [] [.ptr 0 0 0, .ptr 3 0 0, .ptr 4 0 0, .ptr 5 0 0, .ptr 6 0 0]] [some (.row 1 [.ptr 1 0 0]), some (.row 7 [.agg [eS 1 vt a1, eS 1 vt a2, eS 4 eRoad a3, eS 3 eGrand a4, vi a5, vi a6, .map 2]]), some (.mp (mpE vi (eM eArr2_Str vi) a7)), some (.row 1 [vt a8]), some (.row 1 [vi a9]), some (.row 2 [.agg [vt a10, vt a11]]), some (.row 1 [vi a12])] (vi r.2) [some (.row 1 [.ptr 1 0 0]), some (.row 7 [.agg [eS 1 vt a1, eS 1 vt a2, eS 4 eRoad a3, eS 3 eGrand a4, vi a5, vi a6, .map 2]]), some (.mp (mpE vi (eM eArr2_Str vi) r.1)), some (.row 1 [vt a8]), some (.row 1 [vi a9]), some (.row 2 [.agg [vt a10, vt a11]]), some (.row 1 [vi a12])] := by
 dsimp only [slices_IndexFunc_string_3] at h
 refine fob [4] Try.call87 Try.func87 rfl (.cons rfl (.cons rfl (.cons rfl (.cons rfl (.cons rfl (.cons rfl (.cons rfl .nil))))))) ?_
 refine sk .a ?_
 refine TriE.seqK h (fun (v5 : (List (Int × List (Arr2_Str × Int)))) => St.mk [] [some (.row 1 [.ptr 1 0 0]), some (.row 7 [.agg [eS 1 vt a1, eS 1 vt a2, eS 4 eRoad a3, eS 3 eGrand a4, vi a5, vi a6, .map 2]]), some (.mp (mpE vi (eM eArr2_Str vi) v5)), some (.row 1 [vt a8]), some (.row 1 [vi a9]), some (.row 2 [.agg [vt a10, vt a11]]), some (.row 1 [vi a12])]) ?_ ?_
 ·rintro v5 h
  refine sk (.i 4 (vi (-1)) .n) ?_
  refine q3 ?_
  have h := si h
  subst h
  exact DoneS.ret Sees.refl rfl rfl
 intro k1 h
 refine sj ?_
 refine rk 1 (.k2 (.i 6 (eS 1 vt a0) .n)) ?_
 refine jo 7 (.len 0 6) (ok_len_m rfl) ?_
 refine jk 1 (.d (.k2 (.i 7 (vi (a0.length : Int)) (.i 8 (vi 0) .n)))) ?_
 refine q4 ?_
 refine ts (.k3 (.i 8 (vi 0) .n)) ?_
 refine TriE.loopN h (fun (t : Nat × (List (Int × List (Arr2_Str × Int)))) => match t with | (v2, v3) => St.mk [(0, eS 1 vt a0), (1, .fn (.func 88) [] [.ptr 0 0 0, .ptr 3 0 0, .ptr 4 0 0, .ptr 5 0 0, .ptr 6 0 0]), (7, vi (a0.length : Int)), (8, vi v2)] [some (.row 1 [.ptr 1 0 0]), some (.row 7 [.agg [eS 1 vt a1, eS 1 vt a2, eS 4 eRoad a3, eS 3 eGrand a4, vi a5, vi a6, .map 2]]), some (.mp (mpE vi (eM eArr2_Str vi) v3)), some (.row 1 [vt a8]), some (.row 1 [vi a9]), some (.row 2 [.agg [vt a10, vt a11]]), some (.row 1 [vi a12])]) rfl ?_
 clear h
 rintro back ⟨v2, v3⟩ h
 dsimp only [slices_IndexFunc_string_3_L1] at h
 refine sj ?_
 refine jo 9 (.bin .lss false 8 7) (n_lss (i := v2) (j := a0.length) rfl rfl) ?_
 refine jf (.d (.k4 (.i 9 (vb (decide (v2 < a0.length))) .n))) ?_
 refine q1 ?_
 refine tc h (fun c1 h => ?_) (fun c1 h => ?_)
 ·refine q2 ?_
  refine q7 ?_
  refine sk (.k4 (.i 5 (vi v2) .n)) ?_
  refine sj ?_
  refine rk 3 (.k4 (.k (.i 11 (.fn (.func 88) [] [.ptr 0 0 0, .ptr 3 0 0, .ptr 4 0 0, .ptr 5 0 0, .ptr 6 0 0]) (.i 12 (eS 1 vt a0) (.i 13 (vi v2) .n))))) ?_
  refine jo 14 (.iaddr 1 12 13) (ok_iaddr_m (j := v2) rfl rfl rfl c1) ?_
  refine jo 15 (.load false 1 14) (ok_load_fm (v := vt (ix a0 v2)) rfl c1 rfl) ?_
  refine bK h fun y4 hy4 h => ?_
  refine jy (vb y4.1) 16 11 [15] rfl (diary_Route_f1_ok n (ix a0 v2) a1 a2 a3 a4 a5 a6 v3 a8 a9 a10 a11 a12 y4 hy4) [0, 1, 2, 3, 4, 5, 6] rfl (.cons rfl (.cons rfl (.same (mp_ren vi_frz (eM_frz eArr2_Str vi) _ _) (.cons rfl (.cons rfl (.cons rfl (.cons rfl .nil))))))) (.cons rfl (.cons rfl (.same (mp_ren vi_frz (eM_frz eArr2_Str vi) _ _) (.cons rfl (.cons rfl (.cons rfl (.cons rfl .nil))))))) rfl ?_
  refine jf (.d3 (.k4 (.k (.i 16 (vb y4.1) .n)))) ?_
  refine tc h (fun c2 h => ?_) (fun c2 h => ?_)
  ·refine sk (.i 4 (vi v2) .n) ?_
   refine q3 ?_
   have h := si h
   subst h
   exact DoneS.ret Sees.refl rfl rfl
  refine q2 ?_
  refine q6 ?_
  refine cK h fun c3 h => ?_
  refine jo 18 (.bin .add false 8 (ki 1)) (r_addn (i := v2) (j := 1) rfl rfl c3) ?_
  refine jk 1 (.d (.k3 (.i 8 (vi ((v2 + 1 : Nat) : Int)) .n))) ?_
  exact Vs.intro sy ⟨(v2 + 1, y4.2), rfl, h⟩
 refine q5 ?_
 exact Vs.intro sy ⟨v3, rfl, h⟩
set_option maxHeartbeats 1000000 in
theorem diary_Route_ok (n : Nat) (a0 : Diary) (a1 : Arr2_Str) (a2 : Int) (r : Int × (List Str) × Int) (h : diary_Route n a0 a1 a2 = some r) : FnL Try.prog 32 [.agg [eS 1 vt a0.Places, eS 1 vt a0.Technicians, eS 4 eRoad a0.Roads, eS 3 eGrand a0.Grands, vi a0.Change, vi a0.Lasts], .agg [vt a1.a0, vt a1.a1], vi a2] [] (.tup [eS 1 vt r.2.1, vi r.2.2, vi r.1]) [] := by
 dsimp only [diary_Route] at h
 refine fo [6, 7, 8] Try.call32 Try.func32 rfl ?_
 refine sko (.i 3 (.ptr 0 0 0) (.i 4 (.ptr 1 0 0) (.i 5 (.ptr 2 0 0) .n))) [some (.row 6 [.agg [eS 1 vt a0.Places, eS 1 vt a0.Technicians, eS 4 eRoad a0.Roads, eS 3 eGrand a0.Grands, vi a0.Change, vi a0.Lasts]]), some (.row 2 [.agg [vt a1.a0, vt a1.a1]]), some (.row 1 [vi a2])] ?_
 refine TriE.seqK2 h (fun (v4 : Int) => St.mk [(3, .ptr 0 0 0), (4, .ptr 1 0 0), (5, .ptr 2 0 0), (9, .ptr 3 0 0), (10, vi v4)] [some (.row 6 [.agg [eS 1 vt a0.Places, eS 1 vt a0.Technicians, eS 4 eRoad a0.Roads, eS 3 eGrand a0.Grands, vi a0.Change, vi a0.Lasts]]), some (.row 2 [.agg [vt a1.a0, vt a1.a1]]), some (.row 1 [vi a2]), some (.row 1 [.p (.pointer none)])]) (fun (_ : Unit) => St.mk [(3, .ptr 0 0 0), (4, .ptr 1 0 0), (5, .ptr 2 0 0), (9, .ptr 5 0 0), (10, vi 0)] [some (.row 6 [.agg [eS 1 vt a0.Places, eS 1 vt a0.Technicians, eS 4 eRoad a0.Roads, eS 3 eGrand a0.Grands, vi a0.Change, vi a0.Lasts]]), some (.row 2 [.agg [vt a1.a0, vt a1.a1]]), some (.row 1 [vi a2]), some (.mp (mpE vi (eM eArr2_Str vi) ([] : List (Int × List (Arr2_Str × Int))))), some (.row 7 [.agg [eS 1 vt a0.Places, eS 1 vt a0.Technicians, eS 4 eRoad a0.Roads, eS 3 eGrand a0.Grands, vi a0.Change, vi a0.Lasts, .map 3]]), some (.row 1 [.ptr 4 0 0])]) ?_ ?_ ?_
 ·rintro v4 h
  refine q7 ?_
  refine sk (.k4 (.k (.i 25 (vb (v4 != (0 : Int))) .n))) ?_
  refine tc h (fun c1 h => ?_) (fun c1 h => ?_)
  ·refine sk (.i 6 .emp (.i 7 (vi 0) (.i 8 (vi v4) .n))) ?_
   refine q3 ?_
   have h := si h
   subst h
   exact DoneS.ret (S' := ⟨[(6, eS 1 vt ([] : List Str)), (7, vi 0), (8, vi v4)], []⟩) (Sees.trans (Sees.vco (fr' := [(6, eS 1 vt ([] : List Str)), (7, vi 0), (8, vi v4)]) (.cons .sl (.cons .same (.cons .same .nil)))) (sc [] (by decide) (by kernel_rfl) ObRen.nil rfl rfl)) rfl rfl
  refine sj ?_
  refine rk 3 (.k4 (.i 30 (.p (.pointer none)) (.i 32 (vt a1.a0) .n))) ?_
  cases h
 ·rintro ⟨⟩ h
  refine q7 ?_
  refine sk (.k4 (.k (.i 25 (vb false) .n))) ?_
  refine TriE.cond (b := false) rfl (fun c2 => ?_) (fun c2 => ?_)
  ·cases c2
  refine sj ?_
  refine rk 3 (.k4 (.i 30 (.ptr 4 0 0) (.i 32 (vt a1.a0) .n))) ?_
  refine bK h fun y5 hy5 h => ?_
  refine jco (vb y5) 33 [30, 32] (diary_plan_isPlace_2_ok n a0.Places a0.Technicians a0.Roads a0.Grands a0.Change a0.Lasts ([] : List (Int × List (Arr2_Str × Int))) a1.a0 y5 hy5) [4, 3] rfl (.cons rfl (.same (mp_ren vi_frz (eM_frz eArr2_Str vi) _ _) .nil)) (.cons rfl (.same (mp_ren vi_frz (eM_frz eArr2_Str vi) _ _) .nil)) rfl ?_
  refine rk 2 (.d (.k4 (.i 35 (vb (!y5)) .n))) ?_
  refine gj (.ptr 4 0 0) 36 (.load false 1 9) 35 false rfl ?_
  refine gj (.ptr 1 0 1) 37 (.aaddr 2 1 4 (ki 1)) 35 false rfl ?_
  refine gk (vt a1.a1) 38 (.load false 1 37) 35 false rfl (fun hg => (.cons hg .nil)) ?_
  refine bK h fun y6 hy6 h => ?_
  refine RegJ.op (Op1.callg (g := !(!y5)) (y' := vb y6) (obx := [some (.row 7 [.agg [eS 1 vt a0.Places, eS 1 vt a0.Technicians, eS 4 eRoad a0.Roads, eS 3 eGrand a0.Grands, vi a0.Change, vi a0.Lasts, .map 3]]), some (.mp (mpE vi (eM eArr2_Str vi) ([] : List (Int × List (Arr2_Str × Int)))))]) _ _ (cy (IG 39 (.call 81 [36, 38]) 35 false)) rfl (fun hg => diary_plan_isPlace_2_ok n a0.Places a0.Technicians a0.Roads a0.Grands a0.Change a0.Lasts ([] : List (Int × List (Arr2_Str × Int))) a1.a1 y6 (gcall_some hy6 hg)) [4, 3] (fun hg => by kernel_rfl) (fun hg => (.cons rfl (.cons hg (.cons hg .nil)))) (by kernel_rfl) (by kernel_rfl) (.cons rfl (.same (mp_ren vi_frz (eM_frz eArr2_Str vi) _ _) .nil)) (by kernel_rfl) (by kernel_rfl)) ?_
  refine gk (vb (!y6)) 40 (.un .not 39) 35 false rfl (fun hg => (.cons hg .nil)) ?_
  refine po 41 35 40 rfl rfl ?_
  refine jk 1 (.d4 (.d2 (.k4 (.i 29 (vb ((!y5) || (!y6))) .n)))) ?_
  refine tc h (fun c3 h => ?_) (fun c3 h => ?_)
  ·refine sk (.i 6 .emp (.i 7 (vi 0) (.i 8 (vi 6) .n))) ?_
   refine q3 ?_
   have h := si h
   subst h
   exact DoneS.ret (S' := ⟨[(6, eS 1 vt ([] : List Str)), (7, vi 0), (8, vi 6)], []⟩) (Sees.trans (Sees.vco (fr' := [(6, eS 1 vt ([] : List Str)), (7, vi 0), (8, vi 6)]) (.cons .sl (.cons .same (.cons .same .nil)))) (sc [] (by decide) (by kernel_rfl) ObRen.nil rfl rfl)) rfl rfl
  refine sj ?_
  refine rk 1 (.k4 (.i 43 (vi a2) .n)) ?_
  refine bK h fun y7 hy7 h => ?_
  refine jc 44 [43] (diary_isWidth_ok n a2 y7 hy7) ?_
  refine jk 2 (.d (.k4 (.i 42 (vb (!((decide (1 ≤ a2)) && (decide (a2 ≤ 10000))))) .n))) ?_
  refine tc h (fun c4 h => ?_) (fun c4 h => ?_)
  ·refine sk (.i 6 .emp (.i 7 (vi 0) (.i 8 (vi 2) .n))) ?_
   refine q3 ?_
   have h := si h
   subst h
   exact DoneS.ret (S' := ⟨[(6, eS 1 vt ([] : List Str)), (7, vi 0), (8, vi 2)], []⟩) (Sees.trans (Sees.vco (fr' := [(6, eS 1 vt ([] : List Str)), (7, vi 0), (8, vi 2)]) (.cons .sl (.cons .same (.cons .same .nil)))) (sc [] (by decide) (by kernel_rfl) ObRen.nil rfl rfl)) rfl rfl
  refine q2 ?_
  refine sj ?_
  refine rk 6 (.k4 (.i 47 (.ptr 4 0 0) (.i 49 (vt a1.a0) (.i 51 (vt a1.a1) (.i 52 (vi a2) .n))))) ?_
  refine bK h fun y8 hy8 h => ?_
  refine jco (.tup [vi y8.1, vb y8.2.1]) 53 [47, 49, 51, 52] (diary_plan_distance_ok n a0.Places a0.Technicians a0.Roads a0.Grands a0.Change a0.Lasts ([] : List (Int × List (Arr2_Str × Int))) a1.a0 a1.a1 a2 y8 hy8) [4, 3] rfl (.cons rfl (.same (mp_ren vi_frz (eM_frz eArr2_Str vi) _ _) .nil)) (.cons rfl (.same (mp_ren vi_frz (eM_frz eArr2_Str vi) _ _) .nil)) rfl ?_
  refine jk 5 (.d (.k4 (.i 11 (vi y8.1) (.i 12 (vb y8.2.1) .n)))) ?_
  refine q1 ?_
  refine sk (.k4 (.k (.i 57 (vb (!y8.2.1)) .n))) ?_
  refine tc h (fun c5 h => ?_) (fun c5 h => ?_)
  ·refine sk (.i 6 .emp (.i 7 (vi 0) (.i 8 (vi 12) .n))) ?_
   refine q3 ?_
   have h := si h
   subst h
   exact DoneS.ret (S' := ⟨[(6, eS 1 vt ([] : List Str)), (7, vi 0), (8, vi 12)], []⟩) (Sees.trans (Sees.vco (fr' := [(6, eS 1 vt ([] : List Str)), (7, vi 0), (8, vi 12)]) (.cons .sl (.cons .same (.cons .same .nil)))) (sc [] (by decide) (by kernel_rfl) ObRen.nil rfl rfl)) rfl rfl
  refine q2 ?_
  refine sko (.k4 (.k (.i 14 (.ptr 7 0 0) (.i 13 (.own 6 0 1) .n)))) [some (.row 6 [.agg [eS 1 vt a0.Places, eS 1 vt a0.Technicians, eS 4 eRoad a0.Roads, eS 3 eGrand a0.Grands, vi a0.Change, vi a0.Lasts]]), some (.row 2 [.agg [vt a1.a0, vt a1.a1]]), some (.row 1 [vi a2]), some (.mp (mpE vi (eM eArr2_Str vi) y8.2.2)), some (.row 7 [.agg [eS 1 vt a0.Places, eS 1 vt a0.Technicians, eS 4 eRoad a0.Roads, eS 3 eGrand a0.Grands, vi a0.Change, vi a0.Lasts, .map 3]]), some (.row 1 [.ptr 4 0 0]), some (.row 1 [vt a1.a0]), some (.row 1 [vi y8.1])] ?_
  refine TriE.seqK h (fun (v17 : (List Str)) => St.mk [(11, vi y8.1), (13, .own 0 0 v17.length)] [some (.row 1 (List.map vt v17))]) ?_ ?_
  ·rintro v17 h
   refine sk (.i 6 (.own 0 0 v17.length) (.i 7 (vi y8.1) (.i 8 (vi 0) .n))) ?_
   refine q3 ?_
   have h := si h
   subst h
   exact DoneS.ret (S' := ⟨[(6, eS 1 vt v17), (7, vi y8.1), (8, vi 0)], []⟩) (Sees.trans (Sees.freeze 0 (fr' := [(6, eS 1 vt v17), (7, vi y8.1), (8, vi 0)]) (ob' := [none]) rfl (frz_row vt_frzE _) (.cons (frz_full rfl) (.cons (.refl _) (.cons (.refl _) .nil))) rfl) (sc [] (by decide) (by kernel_rfl) ObRen.nil rfl rfl)) rfl rfl
  intro k3 h
  refine sko (.k4 (.k3 (.i 15 (.ptr 8 0 0) .n))) [some (.row 6 [.agg [eS 1 vt a0.Places, eS 1 vt a0.Technicians, eS 4 eRoad a0.Roads, eS 3 eGrand a0.Grands, vi a0.Change, vi a0.Lasts]]), some (.row 2 [.agg [vt a1.a0, vt a1.a1]]), some (.row 1 [vi a2]), some (.mp (mpE vi (eM eArr2_Str vi) y8.2.2)), some (.row 7 [.agg [eS 1 vt a0.Places, eS 1 vt a0.Technicians, eS 4 eRoad a0.Roads, eS 3 eGrand a0.Grands, vi a0.Change, vi a0.Lasts, .map 3]]), some (.row 1 [.ptr 4 0 0]), some (.row 1 [vt a1.a0]), some (.row 1 [vi y8.1]), some (.row 1 [vt a1.a0])] ?_
  refine q4 ?_
  refine TriE.sees (S' := ⟨[(3, .ptr 0 0 0), (4, .ptr 1 0 0), (5, .ptr 2 0 0), (9, .ptr 5 0 0), (11, vi y8.1), (14, .ptr 7 0 0), (13, .own 6 0 ([a1.a0] : List Str).length), (15, .ptr 8 0 0)], [some (.row 6 [.agg [eS 1 vt a0.Places, eS 1 vt a0.Technicians, eS 4 eRoad a0.Roads, eS 3 eGrand a0.Grands, vi a0.Change, vi a0.Lasts]]), some (.row 2 [.agg [vt a1.a0, vt a1.a1]]), some (.row 1 [vi a2]), some (.mp (mpE vi (eM eArr2_Str vi) y8.2.2)), some (.row 7 [.agg [eS 1 vt a0.Places, eS 1 vt a0.Technicians, eS 4 eRoad a0.Roads, eS 3 eGrand a0.Grands, vi a0.Change, vi a0.Lasts, .map 3]]), some (.row 1 [.ptr 4 0 0]), some (.row 1 (List.map vt ([a1.a0] : List Str))), some (.row 1 [vi y8.1]), some (.row 1 [vt a1.a0])]⟩) sy ?_
  refine TriE.loopN h (fun (t : Str × Int × (List Str) × (List (Int × List (Arr2_Str × Int)))) => match t with | (v11, v12, v13, v14) => St.mk [(3, .ptr 0 0 0), (4, .ptr 1 0 0), (5, .ptr 2 0 0), (9, .ptr 5 0 0), (11, vi y8.1), (14, .ptr 7 0 0), (13, .own 6 0 v13.length), (15, .ptr 8 0 0)] [some (.row 6 [.agg [eS 1 vt a0.Places, eS 1 vt a0.Technicians, eS 4 eRoad a0.Roads, eS 3 eGrand a0.Grands, vi a0.Change, vi a0.Lasts]]), some (.row 2 [.agg [vt a1.a0, vt a1.a1]]), some (.row 1 [vi a2]), some (.mp (mpE vi (eM eArr2_Str vi) v14)), some (.row 7 [.agg [eS 1 vt a0.Places, eS 1 vt a0.Technicians, eS 4 eRoad a0.Roads, eS 3 eGrand a0.Grands, vi a0.Change, vi a0.Lasts, .map 3]]), some (.row 1 [.ptr 4 0 0]), some (.row 1 (List.map vt v13)), some (.row 1 [vi v12]), some (.row 1 [vt v11])]) rfl ?_
  clear h
  rintro back ⟨v11, v12, v13, v14⟩ h
  dsimp only [diary_Route_L1] at h
  refine q1 ?_
  refine sk (.k4 (.k4 (.i 67 (vb (!(v11 == a1.a1))) .n))) ?_
  refine tc h (fun c6 h => ?_) (fun c6 h => ?_)
  ·refine q2 ?_
   refine q7 ?_
   refine sj ?_
   refine rk 3 (.k4 (.k4 (.i 69 (eS 1 vt a0.Places) (.i 70 (.fn (.func 88) [] [.ptr 5 0 0, .ptr 8 0 0, .ptr 2 0 0, .ptr 1 0 0, .ptr 7 0 0]) .n)))) ?_
   refine bK h fun y15 hy15 h => ?_
   refine jco (vi y15.2) 71 [69, 70] (slices_IndexFunc_string_3_ok n a0.Places a0.Places a0.Technicians a0.Roads a0.Grands a0.Change a0.Lasts v14 v11 a2 a1.a0 a1.a1 v12 y15 hy15) [5, 4, 3, 8, 2, 1, 7] rfl (.cons rfl (.cons rfl (.same (mp_ren vi_frz (eM_frz eArr2_Str vi) _ _) (.cons rfl (.cons rfl (.cons rfl (.cons rfl .nil))))))) (.cons rfl (.cons rfl (.same (mp_ren vi_frz (eM_frz eArr2_Str vi) _ _) (.cons rfl (.cons rfl (.cons rfl (.cons rfl .nil))))))) rfl ?_
   refine jk 1 (.d (.k4 (.k4 (.i 16 (vi y15.2) .n)))) ?_
   refine sj ?_
   refine rk 3 (.k4 (.k4 (.i 73 (eS 1 vt a0.Places) (.i 74 (vi y15.2) .n)))) ?_
   refine cK h fun c7 h => ?_
   refine jo 75 (.iaddr 1 73 74) (ok_iaddr_m (j := y15.2.toNat) rfl rfl (inB_to c7) (inB_lt c7)) ?_
   refine cK h fun c8 h => ?_
   refine jo 76 (.load false 1 75) (ok_load_fm (v := vt (ix a0.Places y15.2.toNat)) rfl c8 rfl) ?_
   refine jk 1 (.d2 (.k4 (.k4 (.i 17 (vt (ix a0.Places y15.2.toNat)) .n)))) ?_
   refine sj ?_
   refine rk 4 (.k4 (.k4 (.k (.i 78 (.ptr 4 0 0) (.i 79 (vt v11) (.i 80 (vt (ix a0.Places y15.2.toNat)) (.i 81 (vi a2) .n))))))) ?_
   refine bK h fun y16 hy16 h => ?_
   refine jco (.tup [vi y16.1, vb y16.2]) 82 [78, 79, 80, 81] (diary_plan_joined_ok n a0.Places a0.Technicians a0.Roads a0.Grands a0.Change a0.Lasts y15.1 v11 (ix a0.Places y15.2.toNat) a2 y16 hy16) [4, 3] rfl (.cons rfl (.same (mp_ren vi_frz (eM_frz eArr2_Str vi) _ _) .nil)) (.cons rfl (.same (mp_ren vi_frz (eM_frz eArr2_Str vi) _ _) .nil)) rfl ?_
   refine jk 5 (.d (.k4 (.k4 (.k (.i 18 (vi y16.1) .n))))) ?_
   refine q1 ?_
   refine ts .a ?_
   refine TriE.draw (by kernel_rfl) ?_
   refine dk 3 (.i 87 (vi y16.1) (.i 86 (vi v12) (.i 85 (vt (ix a0.Places y15.2.toNat)) .a))) ?_
   refine cK h fun c9 h => ?_
   refine dp 88 (.bin .sub false 86 87) (r_sub rfl rfl c9) ?_
   refine dko 2 .a [some (.row 6 [.agg [eS 1 vt a0.Places, eS 1 vt a0.Technicians, eS 4 eRoad a0.Roads, eS 3 eGrand a0.Grands, vi a0.Change, vi a0.Lasts]]), some (.row 2 [.agg [vt a1.a0, vt a1.a1]]), some (.row 1 [vi a2]), some (.mp (mpE vi (eM eArr2_Str vi) y15.1)), some (.row 7 [.agg [eS 1 vt a0.Places, eS 1 vt a0.Technicians, eS 4 eRoad a0.Roads, eS 3 eGrand a0.Grands, vi a0.Change, vi a0.Lasts, .map 3]]), some (.row 1 [.ptr 4 0 0]), some (.row 1 (List.map vt v13)), some (.row 1 [vi (v12 - y16.1)]), some (.row 1 [vt (ix a0.Places y15.2.toNat)]), none, none, none, none, none, none] ?_
   refine dfi (ob' := [some (.row 6 [.agg [eS 1 vt a0.Places, eS 1 vt a0.Technicians, eS 4 eRoad a0.Roads, eS 3 eGrand a0.Grands, vi a0.Change, vi a0.Lasts]]), some (.row 2 [.agg [vt a1.a0, vt a1.a1]]), some (.row 1 [vi a2]), some (.mp (mpE vi (eM eArr2_Str vi) y15.1)), some (.row 7 [.agg [eS 1 vt a0.Places, eS 1 vt a0.Technicians, eS 4 eRoad a0.Roads, eS 3 eGrand a0.Grands, vi a0.Change, vi a0.Lasts, .map 3]]), some (.row 1 [.ptr 4 0 0]), some (.row 1 (List.map vt v13)), some (.row 1 [vi (v12 - y16.1)]), some (.row 1 [vt (ix a0.Places y15.2.toNat)])]) (.d4 (.k4 (.k4 (.k .n)))) [0, 1, 2, 3, 4, 5, 6, 7, 8] (.cons rfl (.cons rfl (.cons rfl (obRen_mp vi_frz (eM_frz eArr2_Str vi) rfl (.cons rfl (.cons rfl (obRen_row vt_frz rfl (.cons rfl (.cons rfl .nil))))))))) ?_
   refine q6 ?_
   refine rko 3 (.k4 (.k2 (.d (.k (.i 89 (.own 6 0 v13.length) (.i 91 (.own 9 0 1) .n)))))) [some (.row 6 [.agg [eS 1 vt a0.Places, eS 1 vt a0.Technicians, eS 4 eRoad a0.Roads, eS 3 eGrand a0.Grands, vi a0.Change, vi a0.Lasts]]), some (.row 2 [.agg [vt a1.a0, vt a1.a1]]), some (.row 1 [vi a2]), some (.mp (mpE vi (eM eArr2_Str vi) y15.1)), some (.row 7 [.agg [eS 1 vt a0.Places, eS 1 vt a0.Technicians, eS 4 eRoad a0.Roads, eS 3 eGrand a0.Grands, vi a0.Change, vi a0.Lasts, .map 3]]), some (.row 1 [.ptr 4 0 0]), some (.row 1 (List.map vt v13)), some (.row 1 [vi (v12 - y16.1)]), some (.row 1 [vt (ix a0.Places y15.2.toNat)]), some (.row 1 [vt (ix a0.Places y15.2.toNat)])] ?_
   refine cK h fun c10 h => ?_
   refine jx 92 (.app 1 16 89 91) _ (ok_app_own (l := v13) (l2 := ([(ix a0.Places y15.2.toNat)] : List Str)) (e := vt) (u := .own 9 0 1) rfl rfl rfl rfl rfl c10) rfl rfl ?_
   refine jk 1 (.d (.k4 (.k3 (.i 13 (.own 10 0 ((v13 ++ ([(ix a0.Places y15.2.toNat)] : List Str)).length)) .n)))) ?_
   refine sk (.k4 (.k2 (.d (.k (.i 93 (vt (ix a0.Places y15.2.toNat)) .n))))) ?_
   refine tko (.k4 (.k3 (.i 15 (.ptr 11 0 0) .n))) [some (.row 6 [.agg [eS 1 vt a0.Places, eS 1 vt a0.Technicians, eS 4 eRoad a0.Roads, eS 3 eGrand a0.Grands, vi a0.Change, vi a0.Lasts]]), some (.row 2 [.agg [vt a1.a0, vt a1.a1]]), some (.row 1 [vi a2]), some (.mp (mpE vi (eM eArr2_Str vi) y15.1)), some (.row 7 [.agg [eS 1 vt a0.Places, eS 1 vt a0.Technicians, eS 4 eRoad a0.Roads, eS 3 eGrand a0.Grands, vi a0.Change, vi a0.Lasts, .map 3]]), some (.row 1 [.ptr 4 0 0]), none, some (.row 1 [vi (v12 - y16.1)]), some (.row 1 [vt (ix a0.Places y15.2.toNat)]), some (.row 1 [vt (ix a0.Places y15.2.toNat)]), some (.row 1 (List.map vt (v13 ++ ([(ix a0.Places y15.2.toNat)] : List Str)))), some (.row 1 [vt (ix a0.Places y15.2.toNat)])] ?_
   exact Vs.intro (sc [0, 1, 2, 3, 4, 5, 10, 7, 11] (by decide) (by kernel_rfl) (.cons rfl (.cons rfl (.cons rfl (obRen_mp vi_frz (eM_frz eArr2_Str vi) rfl (.cons rfl (.cons rfl (obRen_row vt_frz rfl (.cons rfl (.cons rfl .nil))))))))) rfl rfl) ⟨((ix a0.Places y15.2.toNat), v12 - y16.1, (v13 ++ ([(ix a0.Places y15.2.toNat)] : List Str)), y15.1), rfl, h⟩
  refine q5 ?_
  exact Vs.intro (sc [6] (by decide) (by kernel_rfl) (obRen_row vt_frz rfl .nil) rfl rfl) ⟨v13, rfl, h⟩
 intro k1 k2 h
 refine q6 ?_
 refine rk 1 (.k3 (.i 21 (.agg [eS 1 vt a0.Places, eS 1 vt a0.Technicians, eS 4 eRoad a0.Roads, eS 3 eGrand a0.Grands, vi a0.Change, vi a0.Lasts]) .n)) ?_
 refine bK h fun y1 hy1 h => ?_
 rcases y1 with y1 | y1
 ·dsimp only at h
  refine jc 22 [21] (diary_open_ok n a0 (Sum.inl y1) hy1) ?_
  refine jko 6 (.d (.k3 (.i 9 (.ptr 3 0 0) (.i 10 (vi y1) .n)))) [some (.row 6 [.agg [eS 1 vt a0.Places, eS 1 vt a0.Technicians, eS 4 eRoad a0.Roads, eS 3 eGrand a0.Grands, vi a0.Change, vi a0.Lasts]]), some (.row 2 [.agg [vt a1.a0, vt a1.a1]]), some (.row 1 [vi a2]), some (.row 1 [.p (.pointer none)])] ?_
  exact Vs.intro Sees.refl (.inl ⟨y1, rfl, h⟩)
 dsimp only at h
 refine jco (.tup [.ptr 4 0 0, vi 0]) 22 [21] (diary_open_ok n a0 (Sum.inr y1) hy1) [] rfl ObsRen.nil (.same (mp_ren vi_frz (eM_frz eArr2_Str vi) _ _) (.cons rfl .nil)) rfl ?_
 refine jko 6 (.d (.k3 (.i 9 (.ptr 5 0 0) (.i 10 (vi 0) .n)))) [some (.row 6 [.agg [eS 1 vt a0.Places, eS 1 vt a0.Technicians, eS 4 eRoad a0.Roads, eS 3 eGrand a0.Grands, vi a0.Change, vi a0.Lasts]]), some (.row 2 [.agg [vt a1.a0, vt a1.a1]]), some (.row 1 [vi a2]), some (.mp (mpE vi (eM eArr2_Str vi) ([] : List (Int × List (Arr2_Str × Int))))), some (.row 7 [.agg [eS 1 vt a0.Places, eS 1 vt a0.Technicians, eS 4 eRoad a0.Roads, eS 3 eGrand a0.Grands, vi a0.Change, vi a0.Lasts, .map 3]]), some (.row 1 [.ptr 4 0 0])] ?_
 exact Vs.intro Sees.refl (.inr ⟨(), rfl, h⟩)
set_option maxHeartbeats 20000000 in
theorem agraffelaw09_DiaryDistances_ok (n : Nat) (a0 : Diary) (a1 : Arr3_Str) (a2 : Int) (r : Bool) (h : agraffelaw09_DiaryDistances n a0 a1 a2 = some r) : FnL Try.prog 6 [.agg [eS 1 vt a0.Places, eS 1 vt a0.Technicians, eS 4 eRoad a0.Roads, eS 3 eGrand a0.Grands, vi a0.Change, vi a0.Lasts], .agg [vt a1.a0, vt a1.a1, vt a1.a2], vi a2] [] (vb r) [] := by
 dsimp only [agraffelaw09_DiaryDistances] at h
 refine fo [6] Try.call6 Try.func6 rfl ?_
 refine sj ?_
 refine rko 2 (.d2 (.k (.i 3 (.ptr 0 0 0) (.i 4 (.ptr 1 0 0) .n)))) [some (.row 6 [.agg [eS 1 vt a0.Places, eS 1 vt a0.Technicians, eS 4 eRoad a0.Roads, eS 3 eGrand a0.Grands, vi a0.Change, vi a0.Lasts]]), some (.row 3 [.agg [vt a1.a0, vt a1.a1, vt a1.a2]])] ?_
 refine RegJ.sees (Sees.freeze 1 (fr' := [(2, vi a2), (3, .ptr 0 0 0), (4, .fptr 3 [.agg [vt a1.a0, vt a1.a1, vt a1.a2]] 0 0)]) (ob' := [some (.row 6 [.agg [eS 1 vt a0.Places, eS 1 vt a0.Technicians, eS 4 eRoad a0.Roads, eS 3 eGrand a0.Grands, vi a0.Change, vi a0.Lasts]]), none]) rfl (frzs_cons rfl frzs_nil) (.cons (.refl _) (.cons (.refl _) (.cons (.ptr (by simp) (by simp)) .nil))) rfl) ?_
 refine jk 1 .a ?_
 refine q1 ?_
 refine sj ?_
 refine bK h fun y1 hy1 h => ?_
 refine jc 20 [] (agraffelaw09_awake_ok n y1 hy1) ?_
 refine jk 1 (.d (.k3 (.i 21 (vb (!y1)) .n))) ?_
 refine tc h (fun c1 h => ?_) (fun c1 h => ?_)
 ·refine sk (.i 6 (vb false) .n) ?_
  refine q3 ?_
  have h := si h
  subst h
  exact DoneS.ret (S' := ⟨[(6, vb false)], []⟩) (sc [] (by decide) (by kernel_rfl) ObRen.nil rfl rfl) rfl rfl
 refine q2 ?_
 refine q1 ?_
 refine q1 ?_
 refine ts (.k3 .n) ?_
 refine TriE.draw (by kernel_rfl) ?_
 refine dk 1 (.i 22 (.agg [eS 1 vt a0.Places, eS 1 vt a0.Technicians, eS 4 eRoad a0.Roads, eS 3 eGrand a0.Grands, vi a0.Change, vi a0.Lasts]) .a) ?_
 refine bK h fun y2 hy2 h => ?_
 refine dc (vb y2) 0 23 [22] (agraffelaw09_Light_ok n a0 y2 hy2) [] rfl ObsRen.nil ObsRen.nil rfl (.inr ⟨rfl, rfl⟩) ?_
 refine dk 2 (.i 25 (vb (!y2)) (.i 24 (vb (!y2)) .a)) ?_
 refine gd (!(!y2)) (eS 1 vt ([a1.a0, a1.a1, a1.a2] : List Str)) 26 (.sla 3 4 none none) 25 false rfl (fun hg => (.cons rfl .nil)) ?_
 refine bK h fun y3 hy3 h => ?_
 refine du (!(!y2)) 27 [26, (ki 3), (ki 100)] 25 false rfl (fun hg => agraffelaw09_short_ok n ([a1.a0, a1.a1, a1.a2] : List Str) 3 100 y3 (gcall_some hy3 hg)) (fun hg => (.cons rfl (.cons hg (.cons rfl (.cons rfl .nil))))) (fun hg => by kernel_rfl) ?_
 refine gd (!(!y2)) (vb (!y3)) 28 (.un .not 27) 25 false rfl (fun hg => (.cons hg .nil)) ?_
 refine RegD.op (OpD.or (cy (I0 29 (.pick 25 (.c (.p (.bool true))) 28))) rfl rfl (by first | exact hokO1 | exact hokO0 | simp)) ?_
 refine dk 1 (.i 30 (vb ((!y2) || (!y3))) (.i 29 (vb ((!y2) || (!y3))) (.d .a))) ?_
 refine gd (!((!y2) || (!y3))) (.agg [eS 1 vt a0.Places, eS 1 vt a0.Technicians, eS 4 eRoad a0.Roads, eS 3 eGrand a0.Grands, vi a0.Change, vi a0.Lasts]) 31 (.load true 6 3) 30 false rfl (fun hg => (.cons rfl .nil)) ?_
 refine bK h fun y4 hy4 h => ?_
 refine du (!((!y2) || (!y3))) 32 [31] 30 false rfl (fun hg => agrafferef09_CheckDiary_ok n a0 y4 (gcall_some hy4 hg)) (fun hg => (.cons rfl (.cons hg .nil))) (fun hg => by kernel_rfl) ?_
 refine gd (!((!y2) || (!y3))) (vb (y4 != (0 : Int))) 33 (.bin .neq false 32 (ki 0)) 30 false rfl (fun hg => (.cons hg (.cons rfl .nil))) ?_
 refine RegD.op (OpD.or (cy (I0 34 (.pick 30 (.c (.p (.bool true))) 33))) rfl rfl (by first | exact hokO1 | exact hokO0 | simp)) ?_
 refine dk 1 (.i 35 (vb (((!y2) || (!y3)) || (y4 != (0 : Int)))) (.i 34 (vb (((!y2) || (!y3)) || (y4 != (0 : Int)))) (.d .a))) ?_
 refine gd (!(((!y2) || (!y3)) || (y4 != (0 : Int)))) (.agg [eS 1 vt a0.Places, eS 1 vt a0.Technicians, eS 4 eRoad a0.Roads, eS 3 eGrand a0.Grands, vi a0.Change, vi a0.Lasts]) 36 (.load true 6 3) 35 false rfl (fun hg => (.cons rfl .nil)) ?_
 refine gd (!(((!y2) || (!y3)) || (y4 != (0 : Int)))) (eS 1 vt ([a1.a0, a1.a1, a1.a2] : List Str)) 37 (.sla 3 4 none none) 35 false rfl (fun hg => (.cons rfl .nil)) ?_
 refine gd (!(((!y2) || (!y3)) || (y4 != (0 : Int)))) (vi a2) 38 (.mov 2) 35 false rfl (fun hg => (.cons rfl .nil)) ?_
 refine bK h fun y5 hy5 h => ?_
 refine du (!(((!y2) || (!y3)) || (y4 != (0 : Int)))) 39 [36, 37, 38] 35 false rfl (fun hg => agrafferef09_CheckEnds_ok n a0 ([a1.a0, a1.a1, a1.a2] : List Str) a2 y5 (gcall_some hy5 hg)) (fun hg => (.cons rfl (.cons hg (.cons hg (.cons hg .nil))))) (fun hg => by kernel_rfl) ?_
 refine gd (!(((!y2) || (!y3)) || (y4 != (0 : Int)))) (vb (y5 != (0 : Int))) 40 (.bin .neq false 39 (ki 0)) 35 false rfl (fun hg => (.cons hg (.cons rfl .nil))) ?_
 refine RegD.op (OpD.or (cy (I0 41 (.pick 35 (.c (.p (.bool true))) 40))) rfl rfl (by first | exact hokO1 | exact hokO0 | simp)) ?_
 refine dfi (ob' := [some (.row 6 [.agg [eS 1 vt a0.Places, eS 1 vt a0.Technicians, eS 4 eRoad a0.Roads, eS 3 eGrand a0.Grands, vi a0.Change, vi a0.Lasts]])]) (.d4 (.d4 (.d4 (.d4 (.d4 (.k3 (.i 41 (vb ((((!y2) || (!y3)) || (y4 != (0 : Int))) || (y5 != (0 : Int)))) .n))))))) [0] (.cons rfl .nil) ?_
 refine tc h (fun c2 h => ?_) (fun c2 h => ?_)
 ·refine sk (.i 6 (vb true) .n) ?_
  refine q3 ?_
  have h := si h
  subst h
  exact DoneS.ret (S' := ⟨[(6, vb true)], []⟩) (sc [] (by decide) (by kernel_rfl) ObRen.nil rfl rfl) rfl rfl
 refine q2 ?_
 refine sko (.k3 (.i 7 (.ptr 1 0 0) .n)) [some (.row 6 [.agg [eS 1 vt a0.Places, eS 1 vt a0.Technicians, eS 4 eRoad a0.Roads, eS 3 eGrand a0.Grands, vi a0.Change, vi a0.Lasts]]), some (.row 3 [.agg [vi 0, vi 0, vi 0]])] ?_
 refine q1 ?_
 refine sk (.k4 (.i 8 (vi 0) .n)) ?_
 refine q4 ?_
 refine TriE.rnd 4 ?_
 refine RndE.seq ?_
 refine q1 ?_
 refine sk (.k4 (.k (.i 43 (vb true) .n))) ?_
 refine TriE.cond (b := true) rfl (fun c3 => ?_) (fun c3 => ?_)
 rotate_left
 ·cases c3
 refine q2 ?_
 refine TriE.seqK h (fun (v13 : Int) => St.mk [(2, vi a2), (3, .ptr 0 0 0), (4, .fptr 3 [.agg [vt a1.a0, vt a1.a1, vt a1.a2]] 0 0), (7, .ptr 1 0 0), (8, vi 0)] [some (.row 6 [.agg [eS 1 vt a0.Places, eS 1 vt a0.Technicians, eS 4 eRoad a0.Roads, eS 3 eGrand a0.Grands, vi a0.Change, vi a0.Lasts]]), some (.row 3 [.agg [vi v13, vi 0, vi 0]])]) ?_ ?_
 ·rintro v13 h
  refine q6 ?_
  refine rk 1 (.k4 (.i 44 (vi 0) .n)) ?_
  refine jo 45 (.bin .add false 44 (ki 1)) (r_addn (i := 0) (j := 1) rfl rfl rfl) ?_
  refine jk 1 (.d (.k4 (.i 8 (vi 1) .n))) ?_
  refine RndE.seq ?_
  refine q1 ?_
  refine sk (.k4 (.k (.i 43 (vb true) .n))) ?_
  refine TriE.cond (b := true) rfl (fun c9 => ?_) (fun c9 => ?_)
  rotate_left
  ·cases c9
  refine q2 ?_
  refine TriE.seqK h (fun (v21 : Int) => St.mk [(2, vi a2), (3, .ptr 0 0 0), (4, .fptr 3 [.agg [vt a1.a0, vt a1.a1, vt a1.a2]] 0 0), (7, .ptr 1 0 0), (8, vi 1)] [some (.row 6 [.agg [eS 1 vt a0.Places, eS 1 vt a0.Technicians, eS 4 eRoad a0.Roads, eS 3 eGrand a0.Grands, vi a0.Change, vi a0.Lasts]]), some (.row 3 [.agg [vi v13, vi v21, vi 0]])]) ?_ ?_
  ·rintro v21 h
   refine q6 ?_
   refine rk 1 (.k4 (.i 44 (vi 1) .n)) ?_
   refine jo 45 (.bin .add false 44 (ki 1)) (r_addn (i := 1) (j := 1) rfl rfl rfl) ?_
   refine jk 1 (.d (.k4 (.i 8 (vi 2) .n))) ?_
   refine RndE.seq ?_
   refine q1 ?_
   refine sk (.k4 (.k (.i 43 (vb true) .n))) ?_
   refine TriE.cond (b := true) rfl (fun c15 => ?_) (fun c15 => ?_)
   rotate_left
   ·cases c15
   refine q2 ?_
   refine TriE.seqK h (fun (v29 : Int) => St.mk [(2, vi a2), (3, .ptr 0 0 0), (4, .fptr 3 [.agg [vt a1.a0, vt a1.a1, vt a1.a2]] 0 0), (7, .ptr 1 0 0), (8, vi 2)] [some (.row 6 [.agg [eS 1 vt a0.Places, eS 1 vt a0.Technicians, eS 4 eRoad a0.Roads, eS 3 eGrand a0.Grands, vi a0.Change, vi a0.Lasts]]), some (.row 3 [.agg [vi v13, vi v21, vi v29]])]) ?_ ?_
   ·rintro v29 h
    refine q6 ?_
    refine rk 1 (.k4 (.i 44 (vi 2) .n)) ?_
    refine jo 45 (.bin .add false 44 (ki 1)) (r_addn (i := 2) (j := 1) rfl rfl rfl) ?_
    refine jk 1 (.d (.k4 (.i 8 (vi 3) .n))) ?_
    refine RndE.seq ?_
    refine q1 ?_
    refine sk (.k4 (.k (.i 43 (vb false) .n))) ?_
    refine TriE.cond (b := false) rfl (fun c21 => ?_) (fun c21 => ?_)
    ·cases c21
    refine q5 ?_
    refine sj ?_
    refine rk 4 (.d3 (.k (.i 131 (vb (decide (v13 < (0 : Int)))) .n))) ?_
    refine gj (.ptr 1 0 1) 132 (.aaddr 3 1 7 (ki 1)) 131 false rfl ?_
    refine gk (vi v21) 133 (.load false 1 132) 131 false rfl (fun hg => (.cons hg .nil)) ?_
    refine gk (vb (decide (v21 < (0 : Int)))) 134 (.bin .lss false 133 (ki 0)) 131 false rfl (fun hg => (.cons hg (.cons rfl .nil))) ?_
    refine po 135 131 134 rfl rfl ?_
    refine rk 1 (.d4 (.k (.i 136 (vb ((decide (v13 < (0 : Int))) || (decide (v21 < (0 : Int))))) .n))) ?_
    refine gj (.ptr 1 0 2) 137 (.aaddr 3 1 7 (ki 2)) 136 false rfl ?_
    refine gk (vi v29) 138 (.load false 1 137) 136 false rfl (fun hg => (.cons hg .nil)) ?_
    refine gk (vb (decide ((0 : Int) ≤ v29))) 139 (.bin .geq false 138 (ki 0)) 136 false rfl (fun hg => (.cons hg (.cons rfl .nil))) ?_
    refine gk (vb (decide ((0 : Int) ≤ v29))) 140 (.mov 139) 136 false rfl (fun hg => (.cons hg .nil)) ?_
    refine gj (.ptr 1 0 2) 141 (.aaddr 3 1 7 (ki 2)) 140 true rfl ?_
    refine gk (vi v29) 142 (.load false 1 141) 140 true rfl (fun hg => (.cons hg .nil)) ?_
    refine gj (.ptr 1 0 0) 143 (.aaddr 3 1 7 (ki 0)) 140 true rfl ?_
    refine gk (vi v13) 144 (.load false 1 143) 140 true rfl (fun hg => (.cons hg .nil)) ?_
    refine gj (.ptr 1 0 1) 145 (.aaddr 3 1 7 (ki 1)) 140 true rfl ?_
    refine gk (vi v21) 146 (.load false 1 145) 140 true rfl (fun hg => (.cons hg .nil)) ?_
    refine cK h fun c22 h => ?_
    refine gv 147 (.bin .add false 144 146) 140 true rfl (fun hg => (r_add rfl rfl (gor c22 hg))) (fun hg => (.cons hg (.cons hg .nil))) ?_
    refine gk (vb (decide (v29 ≤ (v13 + v21)))) 148 (.bin .leq false 142 147) 140 true rfl (fun hg => (.cons hg (.cons hg .nil))) ?_
    refine RegJ.op (Op1.andg (g := !((decide (v13 < (0 : Int))) || (decide (v21 < (0 : Int))))) (cy (IG 149 (.pick 140 148 (.c (.p (.bool false)))) 136 false)) rfl rfl rfl (fun hg => by first | exact hokA2 hg | exact hokA3 hg | exact hokA1 | exact hokA0 | (rw [hg]; simp) | simp_all)) ?_
    refine po 150 136 149 rfl rfl ?_
    refine jk 1 (.i 6 (vb (((decide (v13 < (0 : Int))) || (decide (v21 < (0 : Int)))) || ((decide ((0 : Int) ≤ v29)) && (decide (v29 ≤ (v13 + v21)))))) .n) ?_
    refine q3 ?_
    have h := si h
    subst h
    exact DoneS.ret (S' := ⟨[(6, vb (((decide (v13 < (0 : Int))) || (decide (v21 < (0 : Int)))) || ((decide ((0 : Int) ≤ v29)) && (decide (v29 ≤ (v13 + v21))))))], []⟩) (sc [] (by decide) (by kernel_rfl) ObRen.nil rfl rfl) rfl rfl
   intro k6 h
   refine q4 ?_
   refine q1 ?_
   refine ts (.k4 (.k .n)) ?_
   refine TriE.draw (by kernel_rfl) ?_
   refine dk 4 (.i 49 (vi 2) (.i 48 (vt a1.a2) (.i 47 (.fptr 3 [.agg [vt a1.a0, vt a1.a1, vt a1.a2]] 0 2) (.i 46 (vi 2) .a)))) ?_
   refine dp 50 (.bin .add false 49 (ki 1)) (r_addn (i := 2) (j := 1) rfl rfl rfl) ?_
   refine dp 51 (.bin .rem false 50 (ki 3)) (r_rem (a := 3) (b := 3) rfl rfl rfl) ?_
   refine dk 4 (.i 10 (vt a1.a0) (.i 9 (vt a1.a2) (.i 53 (vt a1.a0) (.i 52 (.fptr 3 [.agg [vt a1.a0, vt a1.a1, vt a1.a2]] 0 0) .a)))) ?_
   refine dfi (ob' := [some (.row 6 [.agg [eS 1 vt a0.Places, eS 1 vt a0.Technicians, eS 4 eRoad a0.Roads, eS 3 eGrand a0.Grands, vi a0.Change, vi a0.Lasts]]), some (.row 3 [.agg [vi v13, vi v21, vi 0]])]) (.d4 (.d4 (.d2 (.k4 (.k (.i 9 (vt a1.a2) (.i 10 (vt a1.a0) .n))))))) [0, 1] (.cons rfl (.cons rfl .nil)) ?_
   refine sj ?_
   refine rk 1 (.k4 (.k3 (.i 55 (.agg [eS 1 vt a0.Places, eS 1 vt a0.Technicians, eS 4 eRoad a0.Roads, eS 3 eGrand a0.Grands, vi a0.Change, vi a0.Lasts]) .n))) ?_
   refine bK h fun y22 hy22 h => ?_
   refine jc 56 [55] (agraffelaw09_town_ok n a0 y22 hy22) ?_
   refine rk 4 (.d (.k4 (.k3 (.i 56 (.agg [eS 1 vt a0.Places, eS 1 vt a0.Technicians, eS 4 eRoad a0.Roads, eS 3 eGrand a0.Grands, vi a0.Change, vi a0.Lasts]) (.i 59 (.agg [vt a1.a2, vt a1.a0]) (.i 60 (vi a2) .n)))))) ?_
   refine bK h fun y23 hy23 h => ?_
   refine jc 61 [56, 59, 60] (diary_Route_ok n a0 (Arr2_Str.mk a1.a2 a1.a0) a2 y23 hy23) ?_
   refine jk 7 (.d (.k4 (.k3 (.i 12 (vi y23.2.2) (.i 13 (vi y23.1) .n))))) ?_
   refine sj ?_
   refine rk 1 (.k4 (.k4 (.k (.i 66 (.agg [eS 1 vt a0.Places, eS 1 vt a0.Technicians, eS 4 eRoad a0.Roads, eS 3 eGrand a0.Grands, vi a0.Change, vi a0.Lasts]) .n)))) ?_
   refine bK h fun y24 hy24 h => ?_
   refine jc 67 [66] (agraffelaw09_town_ok n a0 y24 hy24) ?_
   refine rk 4 (.d (.k4 (.k4 (.k (.i 67 (.agg [eS 1 vt a0.Places, eS 1 vt a0.Technicians, eS 4 eRoad a0.Roads, eS 3 eGrand a0.Grands, vi a0.Change, vi a0.Lasts]) (.i 70 (.agg [vt a1.a0, vt a1.a2]) (.i 71 (vi a2) .n))))))) ?_
   refine bK h fun y25 hy25 h => ?_
   refine jc 72 [67, 70, 71] (diary_Route_ok n a0 (Arr2_Str.mk a1.a0 a1.a2) a2 y25 hy25) ?_
   refine jk 7 (.d (.k4 (.k4 (.k (.i 15 (vi y25.2.2) (.i 16 (vi y25.1) .n)))))) ?_
   refine q1 ?_
   refine sj ?_
   refine rk 4 (.k4 (.k4 (.k2 (.i 79 (vb (y23.1 != y25.1)) .n)))) ?_
   refine gj (vi y23.2.2) 80 (.mov 12) 79 false rfl ?_
   refine gj (vi y25.2.2) 81 (.mov 15) 79 false rfl ?_
   refine gk (vb (y23.2.2 != y25.2.2)) 82 (.bin .neq false 80 81) 79 false rfl (fun hg => (.cons hg (.cons hg .nil))) ?_
   refine po 83 79 82 rfl rfl ?_
   refine rk 1 (.d4 (.k4 (.k4 (.k (.i 80 (.cond (!(y23.1 != y25.1)) (vi y23.2.2)) (.i 81 (.cond (!(y23.1 != y25.1)) (vi y25.2.2)) (.i 82 (.cond (!(y23.1 != y25.1)) (vb (y23.2.2 != y25.2.2))) (.i 84 (vb ((y23.1 != y25.1) || (y23.2.2 != y25.2.2))) .n)))))))) ?_
   refine gj (vi y23.1) 85 (.mov 13) 84 false rfl ?_
   refine gk (vb (y23.1 != (0 : Int))) 86 (.bin .neq false 85 (ki 0)) 84 false rfl (fun hg => (.cons hg (.cons rfl .nil))) ?_
   refine gk (vb (y23.1 != (0 : Int))) 87 (.mov 86) 84 false rfl (fun hg => (.cons hg .nil)) ?_
   refine gj (vi y23.1) 88 (.mov 13) 87 true rfl ?_
   refine gk (vb (y23.1 != (12 : Int))) 89 (.bin .neq false 88 (ki 12)) 87 true rfl (fun hg => (.cons hg (.cons rfl .nil))) ?_
   refine RegJ.op (Op1.andg (g := !((y23.1 != y25.1) || (y23.2.2 != y25.2.2))) (cy (IG 90 (.pick 87 89 (.c (.p (.bool false)))) 84 false)) rfl rfl rfl (fun hg => by first | exact hokA2 hg | exact hokA3 hg | exact hokA1 | exact hokA0 | (rw [hg]; simp) | simp_all)) ?_
   refine po 91 84 90 rfl rfl ?_
   refine jf (.d4 (.d3 (.k4 (.k4 (.k (.i 91 (vb (((y23.1 != y25.1) || (y23.2.2 != y25.2.2)) || ((y23.1 != (0 : Int)) && (y23.1 != (12 : Int))))) .n)))))) ?_
   refine tc h (fun c16 h => ?_) (fun c16 h => ?_)
   ·refine sk (.i 6 (vb false) .n) ?_
    refine q3 ?_
    have h := si h
    subst h
    exact DoneS.ret (S' := ⟨[(6, vb false)], []⟩) (sc [] (by decide) (by kernel_rfl) ObRen.nil rfl rfl) rfl rfl
   refine q2 ?_
   refine sko (.k4 (.k3 (.d (.k .n)))) [some (.row 6 [.agg [eS 1 vt a0.Places, eS 1 vt a0.Technicians, eS 4 eRoad a0.Roads, eS 3 eGrand a0.Grands, vi a0.Change, vi a0.Lasts]]), some (.row 3 [.agg [vi v13, vi v21, vi y23.2.2]])] ?_
   refine TriE.seqK h (fun (v26 : Int) => St.mk [(2, vi a2), (3, .ptr 0 0 0), (4, .fptr 3 [.agg [vt a1.a0, vt a1.a1, vt a1.a2]] 0 0), (7, .ptr 1 0 0), (8, vi 2), (9, vt a1.a2), (10, vt a1.a0)] [some (.row 6 [.agg [eS 1 vt a0.Places, eS 1 vt a0.Technicians, eS 4 eRoad a0.Roads, eS 3 eGrand a0.Grands, vi a0.Change, vi a0.Lasts]]), some (.row 3 [.agg [vi v13, vi v21, vi v26]])]) ?_ ?_
   ·rintro v26 h
    refine sk (.k4 (.k3 (.i 100 (vb (decide ((1 : Int) < a2))) .n))) ?_
    refine tc h (fun c18 h => ?_) (fun c18 h => ?_)
    ·refine sj ?_
     refine rk 1 (.k4 (.k3 (.i 102 (.agg [eS 1 vt a0.Places, eS 1 vt a0.Technicians, eS 4 eRoad a0.Roads, eS 3 eGrand a0.Grands, vi a0.Change, vi a0.Lasts]) .n))) ?_
     refine bK h fun y27 hy27 h => ?_
     refine jc 103 [102] (agraffelaw09_town_ok n a0 y27 hy27) ?_
     refine rk 4 (.d (.k4 (.k (.i 103 (.agg [eS 1 vt a0.Places, eS 1 vt a0.Technicians, eS 4 eRoad a0.Roads, eS 3 eGrand a0.Grands, vi a0.Change, vi a0.Lasts]) (.i 106 (.agg [vt a1.a2, vt a1.a0]) (.i 107 (vi a2) .n)))))) ?_
     refine cK h fun c19 h => ?_
     refine jo 108 (.bin .sub false 107 (ki 1)) (r_sub rfl rfl c19) ?_
     refine bK h fun y28 hy28 h => ?_
     refine jc 109 [103, 106, 108] (diary_Route_ok n a0 (Arr2_Str.mk a1.a2 a1.a0) (a2 - 1) y28 hy28) ?_
     refine jk 7 (.d2 (.k4 (.k (.i 18 (vi y28.2.2) (.i 19 (vi y28.1) .n))))) ?_
     refine sj ?_
     refine rk 5 (.k4 (.k3 (.i 117 (vb (decide ((0 : Int) ≤ v26))) .n))) ?_
     refine gj (vi y28.1) 118 (.mov 19) 117 true rfl ?_
     refine gk (vb (y28.1 != (0 : Int))) 119 (.bin .neq false 118 (ki 0)) 117 true rfl (fun hg => (.cons hg (.cons rfl .nil))) ?_
     refine gk (vb (y28.1 != (0 : Int))) 120 (.mov 119) 117 true rfl (fun hg => (.cons hg .nil)) ?_
     refine gj (vi y28.2.2) 121 (.mov 18) 120 false rfl ?_
     refine gj (vi 2) 122 (.mov 8) 120 false rfl ?_
     refine gk (.ptr 1 0 2) 123 (.aaddr 3 1 7 122) 120 false rfl (fun hg => (.cons rfl (.cons hg .nil))) ?_
     refine gk (vi v26) 124 (.load false 1 123) 120 false rfl (fun hg => (.cons hg .nil)) ?_
     refine gk (vb (decide (v26 < y28.2.2))) 125 (.bin .gtr false 121 124) 120 false rfl (fun hg => (.cons hg (.cons hg .nil))) ?_
     refine RegJ.op (Op1.org (g := decide ((0 : Int) ≤ v26)) (cy (IG 126 (.pick 120 (.c (.p (.bool true))) 125) 117 true)) rfl rfl rfl (fun hg => by first | exact hokO2 hg | exact hokO3 hg | exact hokO1 | exact hokO0 | (rw [hg]; simp) | simp_all)) ?_
     refine pa 127 117 126 rfl rfl ?_
     refine jf (.d4 (.d4 (.d2 (.k4 (.k (.i 127 (vb ((decide ((0 : Int) ≤ v26)) && ((y28.1 != (0 : Int)) || (decide (v26 < y28.2.2))))) .n)))))) ?_
     refine tc h (fun c20 h => ?_) (fun c20 h => ?_)
     ·refine sk (.i 6 (vb false) .n) ?_
      refine q3 ?_
      have h := si h
      subst h
      exact DoneS.ret (S' := ⟨[(6, vb false)], []⟩) (sc [] (by decide) (by kernel_rfl) ObRen.nil rfl rfl) rfl rfl
     refine q2 ?_
     exact Vs.intro sy ⟨v26, rfl, h⟩
    refine q2 ?_
    exact Vs.intro sy ⟨v26, rfl, h⟩
   intro k5 h
   refine sk (.k4 (.k3 (.i 96 (vb (y23.1 == (12 : Int))) .n))) ?_
   refine tc h (fun c17 h => ?_) (fun c17 h => ?_)
   ·refine tko (.k4 (.k3 .n)) [some (.row 6 [.agg [eS 1 vt a0.Places, eS 1 vt a0.Technicians, eS 4 eRoad a0.Roads, eS 3 eGrand a0.Grands, vi a0.Change, vi a0.Lasts]]), some (.row 3 [.agg [vi v13, vi v21, vi (-1)]])] ?_
    exact Vs.intro Sees.refl ⟨(-1), rfl, h⟩
   refine q2 ?_
   exact Vs.intro sy ⟨y23.2.2, rfl, h⟩
  intro k4 h
  refine q4 ?_
  refine q1 ?_
  refine ts (.k4 (.k .n)) ?_
  refine TriE.draw (by kernel_rfl) ?_
  refine dk 4 (.i 49 (vi 1) (.i 48 (vt a1.a1) (.i 47 (.fptr 3 [.agg [vt a1.a0, vt a1.a1, vt a1.a2]] 0 1) (.i 46 (vi 1) .a)))) ?_
  refine dp 50 (.bin .add false 49 (ki 1)) (r_addn (i := 1) (j := 1) rfl rfl rfl) ?_
  refine dp 51 (.bin .rem false 50 (ki 3)) (r_rem (a := 2) (b := 3) rfl rfl rfl) ?_
  refine dk 4 (.i 10 (vt a1.a2) (.i 9 (vt a1.a1) (.i 53 (vt a1.a2) (.i 52 (.fptr 3 [.agg [vt a1.a0, vt a1.a1, vt a1.a2]] 0 2) .a)))) ?_
  refine dfi (ob' := [some (.row 6 [.agg [eS 1 vt a0.Places, eS 1 vt a0.Technicians, eS 4 eRoad a0.Roads, eS 3 eGrand a0.Grands, vi a0.Change, vi a0.Lasts]]), some (.row 3 [.agg [vi v13, vi 0, vi 0]])]) (.d4 (.d4 (.d2 (.k4 (.k (.i 9 (vt a1.a1) (.i 10 (vt a1.a2) .n))))))) [0, 1] (.cons rfl (.cons rfl .nil)) ?_
  refine sj ?_
  refine rk 1 (.k4 (.k3 (.i 55 (.agg [eS 1 vt a0.Places, eS 1 vt a0.Technicians, eS 4 eRoad a0.Roads, eS 3 eGrand a0.Grands, vi a0.Change, vi a0.Lasts]) .n))) ?_
  refine bK h fun y14 hy14 h => ?_
  refine jc 56 [55] (agraffelaw09_town_ok n a0 y14 hy14) ?_
  refine rk 4 (.d (.k4 (.k3 (.i 56 (.agg [eS 1 vt a0.Places, eS 1 vt a0.Technicians, eS 4 eRoad a0.Roads, eS 3 eGrand a0.Grands, vi a0.Change, vi a0.Lasts]) (.i 59 (.agg [vt a1.a1, vt a1.a2]) (.i 60 (vi a2) .n)))))) ?_
  refine bK h fun y15 hy15 h => ?_
  refine jc 61 [56, 59, 60] (diary_Route_ok n a0 (Arr2_Str.mk a1.a1 a1.a2) a2 y15 hy15) ?_
  refine jk 7 (.d (.k4 (.k3 (.i 12 (vi y15.2.2) (.i 13 (vi y15.1) .n))))) ?_
  refine sj ?_
  refine rk 1 (.k4 (.k4 (.k (.i 66 (.agg [eS 1 vt a0.Places, eS 1 vt a0.Technicians, eS 4 eRoad a0.Roads, eS 3 eGrand a0.Grands, vi a0.Change, vi a0.Lasts]) .n)))) ?_
  refine bK h fun y16 hy16 h => ?_
  refine jc 67 [66] (agraffelaw09_town_ok n a0 y16 hy16) ?_
  refine rk 4 (.d (.k4 (.k4 (.k (.i 67 (.agg [eS 1 vt a0.Places, eS 1 vt a0.Technicians, eS 4 eRoad a0.Roads, eS 3 eGrand a0.Grands, vi a0.Change, vi a0.Lasts]) (.i 70 (.agg [vt a1.a2, vt a1.a1]) (.i 71 (vi a2) .n))))))) ?_
  refine bK h fun y17 hy17 h => ?_
  refine jc 72 [67, 70, 71] (diary_Route_ok n a0 (Arr2_Str.mk a1.a2 a1.a1) a2 y17 hy17) ?_
  refine jk 7 (.d (.k4 (.k4 (.k (.i 15 (vi y17.2.2) (.i 16 (vi y17.1) .n)))))) ?_
  refine q1 ?_
  refine sj ?_
  refine rk 4 (.k4 (.k4 (.k2 (.i 79 (vb (y15.1 != y17.1)) .n)))) ?_
  refine gj (vi y15.2.2) 80 (.mov 12) 79 false rfl ?_
  refine gj (vi y17.2.2) 81 (.mov 15) 79 false rfl ?_
  refine gk (vb (y15.2.2 != y17.2.2)) 82 (.bin .neq false 80 81) 79 false rfl (fun hg => (.cons hg (.cons hg .nil))) ?_
  refine po 83 79 82 rfl rfl ?_
  refine rk 1 (.d4 (.k4 (.k4 (.k (.i 80 (.cond (!(y15.1 != y17.1)) (vi y15.2.2)) (.i 81 (.cond (!(y15.1 != y17.1)) (vi y17.2.2)) (.i 82 (.cond (!(y15.1 != y17.1)) (vb (y15.2.2 != y17.2.2))) (.i 84 (vb ((y15.1 != y17.1) || (y15.2.2 != y17.2.2))) .n)))))))) ?_
  refine gj (vi y15.1) 85 (.mov 13) 84 false rfl ?_
  refine gk (vb (y15.1 != (0 : Int))) 86 (.bin .neq false 85 (ki 0)) 84 false rfl (fun hg => (.cons hg (.cons rfl .nil))) ?_
  refine gk (vb (y15.1 != (0 : Int))) 87 (.mov 86) 84 false rfl (fun hg => (.cons hg .nil)) ?_
  refine gj (vi y15.1) 88 (.mov 13) 87 true rfl ?_
  refine gk (vb (y15.1 != (12 : Int))) 89 (.bin .neq false 88 (ki 12)) 87 true rfl (fun hg => (.cons hg (.cons rfl .nil))) ?_
  refine RegJ.op (Op1.andg (g := !((y15.1 != y17.1) || (y15.2.2 != y17.2.2))) (cy (IG 90 (.pick 87 89 (.c (.p (.bool false)))) 84 false)) rfl rfl rfl (fun hg => by first | exact hokA2 hg | exact hokA3 hg | exact hokA1 | exact hokA0 | (rw [hg]; simp) | simp_all)) ?_
  refine po 91 84 90 rfl rfl ?_
  refine jf (.d4 (.d3 (.k4 (.k4 (.k (.i 91 (vb (((y15.1 != y17.1) || (y15.2.2 != y17.2.2)) || ((y15.1 != (0 : Int)) && (y15.1 != (12 : Int))))) .n)))))) ?_
  refine tc h (fun c10 h => ?_) (fun c10 h => ?_)
  ·refine sk (.i 6 (vb false) .n) ?_
   refine q3 ?_
   have h := si h
   subst h
   exact DoneS.ret (S' := ⟨[(6, vb false)], []⟩) (sc [] (by decide) (by kernel_rfl) ObRen.nil rfl rfl) rfl rfl
  refine q2 ?_
  refine sko (.k4 (.k3 (.d (.k .n)))) [some (.row 6 [.agg [eS 1 vt a0.Places, eS 1 vt a0.Technicians, eS 4 eRoad a0.Roads, eS 3 eGrand a0.Grands, vi a0.Change, vi a0.Lasts]]), some (.row 3 [.agg [vi v13, vi y15.2.2, vi 0]])] ?_
  refine TriE.seqK h (fun (v18 : Int) => St.mk [(2, vi a2), (3, .ptr 0 0 0), (4, .fptr 3 [.agg [vt a1.a0, vt a1.a1, vt a1.a2]] 0 0), (7, .ptr 1 0 0), (8, vi 1), (9, vt a1.a1), (10, vt a1.a2)] [some (.row 6 [.agg [eS 1 vt a0.Places, eS 1 vt a0.Technicians, eS 4 eRoad a0.Roads, eS 3 eGrand a0.Grands, vi a0.Change, vi a0.Lasts]]), some (.row 3 [.agg [vi v13, vi v18, vi 0]])]) ?_ ?_
  ·rintro v18 h
   refine sk (.k4 (.k3 (.i 100 (vb (decide ((1 : Int) < a2))) .n))) ?_
   refine tc h (fun c12 h => ?_) (fun c12 h => ?_)
   ·refine sj ?_
    refine rk 1 (.k4 (.k3 (.i 102 (.agg [eS 1 vt a0.Places, eS 1 vt a0.Technicians, eS 4 eRoad a0.Roads, eS 3 eGrand a0.Grands, vi a0.Change, vi a0.Lasts]) .n))) ?_
    refine bK h fun y19 hy19 h => ?_
    refine jc 103 [102] (agraffelaw09_town_ok n a0 y19 hy19) ?_
    refine rk 4 (.d (.k4 (.k (.i 103 (.agg [eS 1 vt a0.Places, eS 1 vt a0.Technicians, eS 4 eRoad a0.Roads, eS 3 eGrand a0.Grands, vi a0.Change, vi a0.Lasts]) (.i 106 (.agg [vt a1.a1, vt a1.a2]) (.i 107 (vi a2) .n)))))) ?_
    refine cK h fun c13 h => ?_
    refine jo 108 (.bin .sub false 107 (ki 1)) (r_sub rfl rfl c13) ?_
    refine bK h fun y20 hy20 h => ?_
    refine jc 109 [103, 106, 108] (diary_Route_ok n a0 (Arr2_Str.mk a1.a1 a1.a2) (a2 - 1) y20 hy20) ?_
    refine jk 7 (.d2 (.k4 (.k (.i 18 (vi y20.2.2) (.i 19 (vi y20.1) .n))))) ?_
    refine sj ?_
    refine rk 5 (.k4 (.k3 (.i 117 (vb (decide ((0 : Int) ≤ v18))) .n))) ?_
    refine gj (vi y20.1) 118 (.mov 19) 117 true rfl ?_
    refine gk (vb (y20.1 != (0 : Int))) 119 (.bin .neq false 118 (ki 0)) 117 true rfl (fun hg => (.cons hg (.cons rfl .nil))) ?_
    refine gk (vb (y20.1 != (0 : Int))) 120 (.mov 119) 117 true rfl (fun hg => (.cons hg .nil)) ?_
    refine gj (vi y20.2.2) 121 (.mov 18) 120 false rfl ?_
    refine gj (vi 1) 122 (.mov 8) 120 false rfl ?_
    refine gk (.ptr 1 0 1) 123 (.aaddr 3 1 7 122) 120 false rfl (fun hg => (.cons rfl (.cons hg .nil))) ?_
    refine gk (vi v18) 124 (.load false 1 123) 120 false rfl (fun hg => (.cons hg .nil)) ?_
    refine gk (vb (decide (v18 < y20.2.2))) 125 (.bin .gtr false 121 124) 120 false rfl (fun hg => (.cons hg (.cons hg .nil))) ?_
    refine RegJ.op (Op1.org (g := decide ((0 : Int) ≤ v18)) (cy (IG 126 (.pick 120 (.c (.p (.bool true))) 125) 117 true)) rfl rfl rfl (fun hg => by first | exact hokO2 hg | exact hokO3 hg | exact hokO1 | exact hokO0 | (rw [hg]; simp) | simp_all)) ?_
    refine pa 127 117 126 rfl rfl ?_
    refine jf (.d4 (.d4 (.d2 (.k4 (.k (.i 127 (vb ((decide ((0 : Int) ≤ v18)) && ((y20.1 != (0 : Int)) || (decide (v18 < y20.2.2))))) .n)))))) ?_
    refine tc h (fun c14 h => ?_) (fun c14 h => ?_)
    ·refine sk (.i 6 (vb false) .n) ?_
     refine q3 ?_
     have h := si h
     subst h
     exact DoneS.ret (S' := ⟨[(6, vb false)], []⟩) (sc [] (by decide) (by kernel_rfl) ObRen.nil rfl rfl) rfl rfl
    refine q2 ?_
    exact Vs.intro sy ⟨v18, rfl, h⟩
   refine q2 ?_
   exact Vs.intro sy ⟨v18, rfl, h⟩
  intro k3 h
  refine sk (.k4 (.k3 (.i 96 (vb (y15.1 == (12 : Int))) .n))) ?_
  refine tc h (fun c11 h => ?_) (fun c11 h => ?_)
  ·refine tko (.k4 (.k3 .n)) [some (.row 6 [.agg [eS 1 vt a0.Places, eS 1 vt a0.Technicians, eS 4 eRoad a0.Roads, eS 3 eGrand a0.Grands, vi a0.Change, vi a0.Lasts]]), some (.row 3 [.agg [vi v13, vi (-1), vi 0]])] ?_
   exact Vs.intro Sees.refl ⟨(-1), rfl, h⟩
  refine q2 ?_
  exact Vs.intro sy ⟨y15.2.2, rfl, h⟩
 intro k2 h
 refine q4 ?_
 refine q1 ?_
 refine ts (.k4 (.k .n)) ?_
 refine TriE.draw (by kernel_rfl) ?_
 refine dk 4 (.i 49 (vi 0) (.i 48 (vt a1.a0) (.i 47 (.fptr 3 [.agg [vt a1.a0, vt a1.a1, vt a1.a2]] 0 0) (.i 46 (vi 0) .a)))) ?_
 refine dp 50 (.bin .add false 49 (ki 1)) (r_addn (i := 0) (j := 1) rfl rfl rfl) ?_
 refine dp 51 (.bin .rem false 50 (ki 3)) (r_rem (a := 1) (b := 3) rfl rfl rfl) ?_
 refine dk 4 (.i 10 (vt a1.a1) (.i 9 (vt a1.a0) (.i 53 (vt a1.a1) (.i 52 (.fptr 3 [.agg [vt a1.a0, vt a1.a1, vt a1.a2]] 0 1) .a)))) ?_
 refine dfi (ob' := [some (.row 6 [.agg [eS 1 vt a0.Places, eS 1 vt a0.Technicians, eS 4 eRoad a0.Roads, eS 3 eGrand a0.Grands, vi a0.Change, vi a0.Lasts]]), some (.row 3 [.agg [vi 0, vi 0, vi 0]])]) (.d4 (.d4 (.d2 (.k4 (.k (.i 9 (vt a1.a0) (.i 10 (vt a1.a1) .n))))))) [0, 1] (.cons rfl (.cons rfl .nil)) ?_
 refine sj ?_
 refine rk 1 (.k4 (.k3 (.i 55 (.agg [eS 1 vt a0.Places, eS 1 vt a0.Technicians, eS 4 eRoad a0.Roads, eS 3 eGrand a0.Grands, vi a0.Change, vi a0.Lasts]) .n))) ?_
 refine bK h fun y6 hy6 h => ?_
 refine jc 56 [55] (agraffelaw09_town_ok n a0 y6 hy6) ?_
 refine rk 4 (.d (.k4 (.k3 (.i 56 (.agg [eS 1 vt a0.Places, eS 1 vt a0.Technicians, eS 4 eRoad a0.Roads, eS 3 eGrand a0.Grands, vi a0.Change, vi a0.Lasts]) (.i 59 (.agg [vt a1.a0, vt a1.a1]) (.i 60 (vi a2) .n)))))) ?_
 refine bK h fun y7 hy7 h => ?_
 refine jc 61 [56, 59, 60] (diary_Route_ok n a0 (Arr2_Str.mk a1.a0 a1.a1) a2 y7 hy7) ?_
 refine jk 7 (.d (.k4 (.k3 (.i 12 (vi y7.2.2) (.i 13 (vi y7.1) .n))))) ?_
 refine sj ?_
 refine rk 1 (.k4 (.k4 (.k (.i 66 (.agg [eS 1 vt a0.Places, eS 1 vt a0.Technicians, eS 4 eRoad a0.Roads, eS 3 eGrand a0.Grands, vi a0.Change, vi a0.Lasts]) .n)))) ?_
 refine bK h fun y8 hy8 h => ?_
 refine jc 67 [66] (agraffelaw09_town_ok n a0 y8 hy8) ?_
 refine rk 4 (.d (.k4 (.k4 (.k (.i 67 (.agg [eS 1 vt a0.Places, eS 1 vt a0.Technicians, eS 4 eRoad a0.Roads, eS 3 eGrand a0.Grands, vi a0.Change, vi a0.Lasts]) (.i 70 (.agg [vt a1.a1, vt a1.a0]) (.i 71 (vi a2) .n))))))) ?_
 refine bK h fun y9 hy9 h => ?_
 refine jc 72 [67, 70, 71] (diary_Route_ok n a0 (Arr2_Str.mk a1.a1 a1.a0) a2 y9 hy9) ?_
 refine jk 7 (.d (.k4 (.k4 (.k (.i 15 (vi y9.2.2) (.i 16 (vi y9.1) .n)))))) ?_
 refine q1 ?_
 refine sj ?_
 refine rk 4 (.k4 (.k4 (.k2 (.i 79 (vb (y7.1 != y9.1)) .n)))) ?_
 refine gj (vi y7.2.2) 80 (.mov 12) 79 false rfl ?_
 refine gj (vi y9.2.2) 81 (.mov 15) 79 false rfl ?_
 refine gk (vb (y7.2.2 != y9.2.2)) 82 (.bin .neq false 80 81) 79 false rfl (fun hg => (.cons hg (.cons hg .nil))) ?_
 refine po 83 79 82 rfl rfl ?_
 refine rk 1 (.d4 (.k4 (.k4 (.k (.i 80 (.cond (!(y7.1 != y9.1)) (vi y7.2.2)) (.i 81 (.cond (!(y7.1 != y9.1)) (vi y9.2.2)) (.i 82 (.cond (!(y7.1 != y9.1)) (vb (y7.2.2 != y9.2.2))) (.i 84 (vb ((y7.1 != y9.1) || (y7.2.2 != y9.2.2))) .n)))))))) ?_
 refine gj (vi y7.1) 85 (.mov 13) 84 false rfl ?_
 refine gk (vb (y7.1 != (0 : Int))) 86 (.bin .neq false 85 (ki 0)) 84 false rfl (fun hg => (.cons hg (.cons rfl .nil))) ?_
 refine gk (vb (y7.1 != (0 : Int))) 87 (.mov 86) 84 false rfl (fun hg => (.cons hg .nil)) ?_
 refine gj (vi y7.1) 88 (.mov 13) 87 true rfl ?_
 refine gk (vb (y7.1 != (12 : Int))) 89 (.bin .neq false 88 (ki 12)) 87 true rfl (fun hg => (.cons hg (.cons rfl .nil))) ?_
 refine RegJ.op (Op1.andg (g := !((y7.1 != y9.1) || (y7.2.2 != y9.2.2))) (cy (IG 90 (.pick 87 89 (.c (.p (.bool false)))) 84 false)) rfl rfl rfl (fun hg => by first | exact hokA2 hg | exact hokA3 hg | exact hokA1 | exact hokA0 | (rw [hg]; simp) | simp_all)) ?_
 refine po 91 84 90 rfl rfl ?_
 refine jf (.d4 (.d3 (.k4 (.k4 (.k (.i 91 (vb (((y7.1 != y9.1) || (y7.2.2 != y9.2.2)) || ((y7.1 != (0 : Int)) && (y7.1 != (12 : Int))))) .n)))))) ?_
 refine tc h (fun c4 h => ?_) (fun c4 h => ?_)
 ·refine sk (.i 6 (vb false) .n) ?_
  refine q3 ?_
  have h := si h
  subst h
  exact DoneS.ret (S' := ⟨[(6, vb false)], []⟩) (sc [] (by decide) (by kernel_rfl) ObRen.nil rfl rfl) rfl rfl
 refine q2 ?_
 refine sko (.k4 (.k3 (.d (.k .n)))) [some (.row 6 [.agg [eS 1 vt a0.Places, eS 1 vt a0.Technicians, eS 4 eRoad a0.Roads, eS 3 eGrand a0.Grands, vi a0.Change, vi a0.Lasts]]), some (.row 3 [.agg [vi y7.2.2, vi 0, vi 0]])] ?_
 refine TriE.seqK h (fun (v10 : Int) => St.mk [(2, vi a2), (3, .ptr 0 0 0), (4, .fptr 3 [.agg [vt a1.a0, vt a1.a1, vt a1.a2]] 0 0), (7, .ptr 1 0 0), (8, vi 0), (9, vt a1.a0), (10, vt a1.a1)] [some (.row 6 [.agg [eS 1 vt a0.Places, eS 1 vt a0.Technicians, eS 4 eRoad a0.Roads, eS 3 eGrand a0.Grands, vi a0.Change, vi a0.Lasts]]), some (.row 3 [.agg [vi v10, vi 0, vi 0]])]) ?_ ?_
 ·rintro v10 h
  refine sk (.k4 (.k3 (.i 100 (vb (decide ((1 : Int) < a2))) .n))) ?_
  refine tc h (fun c6 h => ?_) (fun c6 h => ?_)
  ·refine sj ?_
   refine rk 1 (.k4 (.k3 (.i 102 (.agg [eS 1 vt a0.Places, eS 1 vt a0.Technicians, eS 4 eRoad a0.Roads, eS 3 eGrand a0.Grands, vi a0.Change, vi a0.Lasts]) .n))) ?_
   refine bK h fun y11 hy11 h => ?_
   refine jc 103 [102] (agraffelaw09_town_ok n a0 y11 hy11) ?_
   refine rk 4 (.d (.k4 (.k (.i 103 (.agg [eS 1 vt a0.Places, eS 1 vt a0.Technicians, eS 4 eRoad a0.Roads, eS 3 eGrand a0.Grands, vi a0.Change, vi a0.Lasts]) (.i 106 (.agg [vt a1.a0, vt a1.a1]) (.i 107 (vi a2) .n)))))) ?_
   refine cK h fun c7 h => ?_
   refine jo 108 (.bin .sub false 107 (ki 1)) (r_sub rfl rfl c7) ?_
   refine bK h fun y12 hy12 h => ?_
   refine jc 109 [103, 106, 108] (diary_Route_ok n a0 (Arr2_Str.mk a1.a0 a1.a1) (a2 - 1) y12 hy12) ?_
   refine jk 7 (.d2 (.k4 (.k (.i 18 (vi y12.2.2) (.i 19 (vi y12.1) .n))))) ?_
   refine sj ?_
   refine rk 5 (.k4 (.k3 (.i 117 (vb (decide ((0 : Int) ≤ v10))) .n))) ?_
   refine gj (vi y12.1) 118 (.mov 19) 117 true rfl ?_
   refine gk (vb (y12.1 != (0 : Int))) 119 (.bin .neq false 118 (ki 0)) 117 true rfl (fun hg => (.cons hg (.cons rfl .nil))) ?_
   refine gk (vb (y12.1 != (0 : Int))) 120 (.mov 119) 117 true rfl (fun hg => (.cons hg .nil)) ?_
   refine gj (vi y12.2.2) 121 (.mov 18) 120 false rfl ?_
   refine gj (vi 0) 122 (.mov 8) 120 false rfl ?_
   refine gk (.ptr 1 0 0) 123 (.aaddr 3 1 7 122) 120 false rfl (fun hg => (.cons rfl (.cons hg .nil))) ?_
   refine gk (vi v10) 124 (.load false 1 123) 120 false rfl (fun hg => (.cons hg .nil)) ?_
   refine gk (vb (decide (v10 < y12.2.2))) 125 (.bin .gtr false 121 124) 120 false rfl (fun hg => (.cons hg (.cons hg .nil))) ?_
   refine RegJ.op (Op1.org (g := decide ((0 : Int) ≤ v10)) (cy (IG 126 (.pick 120 (.c (.p (.bool true))) 125) 117 true)) rfl rfl rfl (fun hg => by first | exact hokO2 hg | exact hokO3 hg | exact hokO1 | exact hokO0 | (rw [hg]; simp) | simp_all)) ?_
   refine pa 127 117 126 rfl rfl ?_
   refine jf (.d4 (.d4 (.d2 (.k4 (.k (.i 127 (vb ((decide ((0 : Int) ≤ v10)) && ((y12.1 != (0 : Int)) || (decide (v10 < y12.2.2))))) .n)))))) ?_
   refine tc h (fun c8 h => ?_) (fun c8 h => ?_)
   ·refine sk (.i 6 (vb false) .n) ?_
    refine q3 ?_
    have h := si h
    subst h
    exact DoneS.ret (S' := ⟨[(6, vb false)], []⟩) (sc [] (by decide) (by kernel_rfl) ObRen.nil rfl rfl) rfl rfl
   refine q2 ?_
   exact Vs.intro sy ⟨v10, rfl, h⟩
  refine q2 ?_
  exact Vs.intro sy ⟨v10, rfl, h⟩
 intro k1 h
 refine sk (.k4 (.k3 (.i 96 (vb (y7.1 == (12 : Int))) .n))) ?_
 refine tc h (fun c5 h => ?_) (fun c5 h => ?_)
 ·refine tko (.k4 (.k3 .n)) [some (.row 6 [.agg [eS 1 vt a0.Places, eS 1 vt a0.Technicians, eS 4 eRoad a0.Roads, eS 3 eGrand a0.Grands, vi a0.Change, vi a0.Lasts]]), some (.row 3 [.agg [vi (-1), vi 0, vi 0]])] ?_
  exact Vs.intro Sees.refl ⟨(-1), rfl, h⟩
 refine q2 ?_
 exact Vs.intro sy ⟨y7.2.2, rfl, h⟩
end Go.Proofs.Ytpmkdgnhllhaeaa.As
