/- The code computes what the plain functions say, part 2: no condition. -/
import Derived.Test.YtpmkdgnhllhaeaaWalk1
namespace Go.Proofs.Ytpmkdgnhllhaeaa.As
open Go Go.Proofs
set_option maxRecDepth 4000
set_option maxHeartbeats 1000000 in
theorem diary_FreeFrom_ok (n : Nat) (a0 : Diary) (a1 : List Item) (a2 : Item) (r : Int × Int) (h : diary_FreeFrom n a0 a1 a2 = some r) : FnL Try.prog 24 [.agg [eS 1 vt a0.Places, eS 1 vt a0.Technicians, eS 4 eRoad a0.Roads, eS 3 eGrand a0.Grands, vi a0.Change, vi a0.Lasts], eS 7 eItem a1, .agg [vi a2.Kind, vi a2.From, vi a2.To, vt a2.Grand, vt a2.Place, vt a2.Who, vi a2.Deposit]] [] (.tup [vi r.2, vi r.1]) [] := by
 dsimp only [diary_FreeFrom] at h
 refine fo [6, 7] Try.call24 Try.func24 rfl ?_
 refine sko (.d (.k (.i 3 (.ptr 0 0 0) (.i 5 (.ptr 1 0 0) .n)))) [some (.row 6 [.agg [eS 1 vt a0.Places, eS 1 vt a0.Technicians, eS 4 eRoad a0.Roads, eS 3 eGrand a0.Grands, vi a0.Change, vi a0.Lasts]]), some (.row 7 [.agg [vi a2.Kind, vi a2.From, vi a2.To, vt a2.Grand, vt a2.Place, vt a2.Who, vi a2.Deposit]])] ?_
 refine TriE.seqK2 h (fun (v4 : Int) => St.mk [(1, eS 7 eItem a1), (3, .ptr 0 0 0), (5, .ptr 1 0 0), (8, .p (.pointer none)), (9, vi v4)] [some (.row 6 [.agg [eS 1 vt a0.Places, eS 1 vt a0.Technicians, eS 4 eRoad a0.Roads, eS 3 eGrand a0.Grands, vi a0.Change, vi a0.Lasts]]), some (.row 7 [.agg [vi a2.Kind, vi a2.From, vi a2.To, vt a2.Grand, vt a2.Place, vt a2.Who, vi a2.Deposit]])]) (fun (t : Int × (List (Int × List (Arr2_Str × Int)))) => match t with | (v11, v12) => St.mk [(1, eS 7 eItem a1), (3, .ptr 0 0 0), (5, .ptr 1 0 0), (8, .ptr 3 0 0), (9, vi v11)] [some (.row 6 [.agg [eS 1 vt a0.Places, eS 1 vt a0.Technicians, eS 4 eRoad a0.Roads, eS 3 eGrand a0.Grands, vi a0.Change, vi a0.Lasts]]), some (.row 7 [.agg [vi a2.Kind, vi a2.From, vi a2.To, vt a2.Grand, vt a2.Place, vt a2.Who, vi a2.Deposit]]), some (.mp (mpE vi (eM eArr2_Str vi) v12)), some (.row 7 [.agg [eS 1 vt a0.Places, eS 1 vt a0.Technicians, eS 4 eRoad a0.Roads, eS 3 eGrand a0.Grands, vi a0.Change, vi a0.Lasts, .map 2]])]) ?_ ?_ ?_
 ·rintro v4 h
  refine q7 ?_
  refine sk (.k4 (.k (.i 28 (vb (v4 != (0 : Int))) .n))) ?_
  refine tc h (fun c1 h => ?_) (fun c1 h => ?_)
  ·refine sk (.i 6 (vi 0) (.i 7 (vi v4) .n)) ?_
   refine q3 ?_
   have h := si h
   subst h
   exact DoneS.ret (S' := ⟨[(6, vi 0), (7, vi v4)], []⟩) (sc [] (by decide) (by kernel_rfl) ObRen.nil rfl rfl) rfl rfl
  refine sj ?_
  refine rk 1 (.k4 (.i 33 (eS 7 eItem a1) .n)) ?_
  refine jo 34 (.len 0 33) (ok_len_m rfl) ?_
  refine jo 35 (.bin .geq false 34 (ki 100)) (n_geq (i := a1.length) (j := 100) rfl rfl) ?_
  refine jk 1 (.d2 (.k4 (.i 32 (vb (decide (100 ≤ a1.length))) .n))) ?_
  refine tc h (fun c2 h => ?_) (fun c2 h => ?_)
  ·refine sk (.i 6 (vi 0) (.i 7 (vi 8) .n)) ?_
   refine q3 ?_
   have h := si h
   subst h
   exact DoneS.ret (S' := ⟨[(6, vi 0), (7, vi 8)], []⟩) (sc [] (by decide) (by kernel_rfl) ObRen.nil rfl rfl) rfl rfl
  refine q2 ?_
  refine q1 ?_
  refine sj ?_
  refine rk 2 (.k4 (.i 36 (.agg [eS 1 vt a0.Places, eS 1 vt a0.Technicians, eS 4 eRoad a0.Roads, eS 3 eGrand a0.Grands, vi a0.Change, vi a0.Lasts]) (.i 37 (.agg [vi a2.Kind, vi a2.From, vi a2.To, vt a2.Grand, vt a2.Place, vt a2.Who, vi a2.Deposit]) .n))) ?_
  refine bK h fun y5 hy5 h => ?_
  refine jc 38 [36, 37] (diary_checkItem_ok n a0 a2 y5 hy5) ?_
  refine jk 1 (.d (.k4 (.i 10 (vi y5) .n))) ?_
  refine sk (.k4 (.k (.i 40 (vb (y5 != (0 : Int))) .n))) ?_
  refine tc h (fun c3 h => ?_) (fun c3 h => ?_)
  ·refine sk (.i 6 (vi 0) (.i 7 (vi y5) .n)) ?_
   refine q3 ?_
   have h := si h
   subst h
   exact DoneS.ret (S' := ⟨[(6, vi 0), (7, vi y5)], []⟩) (sc [] (by decide) (by kernel_rfl) ObRen.nil rfl rfl) rfl rfl
  refine q2 ?_
  refine sko (.k4 (.i 11 (.own 2 0 1) .n)) [some (.row 6 [.agg [eS 1 vt a0.Places, eS 1 vt a0.Technicians, eS 4 eRoad a0.Roads, eS 3 eGrand a0.Grands, vi a0.Change, vi a0.Lasts]]), some (.row 7 [.agg [vi a2.Kind, vi a2.From, vi a2.To, vt a2.Grand, vt a2.Place, vt a2.Who, vi a2.Deposit]]), some (.row 1 [vi a2.From])] ?_
  refine TriE.seqK h (fun (_ : Unit) => St.mk [(1, eS 7 eItem a1), (5, .ptr 0 0 0), (8, .p (.pointer none)), (11, .own 1 0 1)] [some (.row 7 [.agg [vi a2.Kind, vi a2.From, vi a2.To, vt a2.Grand, vt a2.Place, vt a2.Who, vi a2.Deposit]]), some (.row 1 [vi a2.From])]) ?_ ?_
  ·rintro ⟨⟩ h
   refine sj ?_
   refine rk 1 (.k4 (.i 81 (.own 1 0 1) .n)) ?_
   refine bK h fun y6 hy6 h => ?_
   refine jco (.tup []) 82 [81] (slices_Sort_int_ok n ([a2.From] : List Int) y6 hy6) [1] rfl (.same (row_ren vi_frz _ _ _) .nil) (.same (row_ren vi_frz _ _ _) .nil) rfl ?_
   refine jf (.d (.k4 .n)) ?_
   refine sj ?_
   refine rk 4 (.k4 (.i 84 (vi a2.To) (.i 86 (vi a2.From) .n))) ?_
   refine cK h fun c7 h => ?_
   refine jo 87 (.bin .sub false 84 86) (r_sub rfl rfl c7) ?_
   refine jk 1 (.d (.k4 (.i 16 (vi (a2.To - a2.From)) .n))) ?_
   refine TriE.seqK h (fun (_ : Unit) => St.mk [] []) ?_ ?_
   ·rintro ⟨⟩ h
    refine sk (.i 6 (vi 0) (.i 7 (vi 12) .n)) ?_
    refine q3 ?_
    have h := si h
    subst h
    exact DoneS.ret Sees.refl rfl rfl
   intro k4 h
   refine sj ?_
   refine rk 1 (.k3 (.d (.k (.i 88 (.own 1 0 1) .n)))) ?_
   refine bK h fun y7 hy7 h => ?_
   refine jco (.own 1 0 y7.1) 89 [88] (slices_Compact_int_ok n y6 0 1 y7 hy7) [1] rfl (.same (row_ren vi_frz _ _ _) .nil) (.same (row_ren vi_frz _ _ _) .nil) rfl ?_
   refine jk 2 (.d (.k4 (.i 89 (.own 1 0 y7.1) (.i 90 (vi ((y7.1 : Nat) : Int)) (.i 91 (vi 0) .n))))) ?_
   refine q4 ?_
   refine ts (.k4 (.k2 (.i 91 (vi 0) .n))) ?_
   refine TriE.loopN h (fun (v9 : Nat) => St.mk [(1, eS 7 eItem a1), (5, .ptr 0 0 0), (8, .p (.pointer none)), (16, vi (a2.To - a2.From)), (89, .own 1 0 y7.1), (90, vi ((y7.1 : Nat) : Int)), (91, vi v9)] [some (.row 7 [.agg [vi a2.Kind, vi a2.From, vi a2.To, vt a2.Grand, vt a2.Place, vt a2.Who, vi a2.Deposit]]), some (.row 1 (List.map vi y7.2))]) rfl ?_
   clear h
   rintro back v9 h
   dsimp only [diary_FreeFrom_L2] at h
   refine sj ?_
   refine jo 92 (.bin .lss false 91 90) (n_lss (i := v9) (j := y7.1) rfl rfl) ?_
   refine jf (.d (.k4 (.k3 (.i 92 (vb (decide (v9 < y7.1))) .n)))) ?_
   refine q1 ?_
   refine tc h (fun c8 h => ?_) (fun c8 h => ?_)
   ·refine q2 ?_
    refine TriE.seqK h (fun (_ : Unit) => St.mk [(1, eS 7 eItem a1), (5, .ptr 0 0 0), (8, .p (.pointer none)), (16, vi (a2.To - a2.From)), (89, .own 1 0 y7.1), (90, vi ((y7.1 : Nat) : Int)), (91, vi v9)] [some (.row 7 [.agg [vi a2.Kind, vi a2.From, vi a2.To, vt a2.Grand, vt a2.Place, vt a2.Who, vi a2.Deposit]]), some (.row 1 (List.map vi y7.2))]) ?_ ?_
    ·rintro ⟨⟩ h
     refine q6 ?_
     refine cK h fun c14 h => ?_
     refine jo 122 (.bin .add false 91 (ki 1)) (r_addn (i := v9) (j := 1) rfl rfl c14) ?_
     refine jk 1 (.d (.k4 (.k2 (.i 91 (vi ((v9 + 1 : Nat) : Int)) .n)))) ?_
     exact Vs.intro sy ⟨(v9 + 1), rfl, h⟩
    intro k3 h
    refine q4 ?_
    refine sj ?_
    refine jo 93 (.iaddr 1 89 91) (ok_iaddr_o0 (j := v9) rfl rfl rfl rfl c8) ?_
    refine cK h fun c9 h => ?_
    refine jo 94 (.load false 1 93) (ok_load_pm (l := y7.2) (e := vi) (v := vi (ix y7.2 v9)) rfl rfl c9 rfl) ?_
    refine jk 1 (.d2 (.k4 (.k3 (.i 18 (vi (ix y7.2 v9)) .n)))) ?_
    refine q1 ?_
    refine sj ?_
    refine rk 5 (.k4 (.k4 (.i 99 (vb (decide ((ix y7.2 v9) < a2.From))) .n))) ?_
    refine gj (vi (ix y7.2 v9)) 100 (.mov 18) 99 false rfl ?_
    refine gj (vi (a2.To - a2.From)) 101 (.mov 16) 99 false rfl ?_
    refine cK h fun c10 h => ?_
    refine gv 102 (.bin .add false 100 101) 99 false rfl (fun hg => (r_add rfl rfl (gor c10 hg))) (fun hg => (.cons hg (.cons hg .nil))) ?_
    refine gk (vb (decide ((1000000 : Int) < ((ix y7.2 v9) + (a2.To - a2.From))))) 103 (.bin .gtr false 102 (ki 1000000)) 99 false rfl (fun hg => (.cons hg (.cons rfl .nil))) ?_
    refine po 104 99 103 rfl rfl ?_
    refine jf (.d4 (.d (.k4 (.k4 (.i 104 (vb ((decide ((ix y7.2 v9) < a2.From)) || (decide ((1000000 : Int) < ((ix y7.2 v9) + (a2.To - a2.From)))))) .n))))) ?_
    refine tc h (fun c11 h => ?_) (fun c11 h => ?_)
    ·refine q5 ?_
     exact Vs.intro sy ⟨(), rfl, h⟩
    refine q2 ?_
    refine sko (.k4 (.k4 (.i 19 (.ptr 2 0 0) .n))) [some (.row 7 [.agg [vi a2.Kind, vi a2.From, vi a2.To, vt a2.Grand, vt a2.Place, vt a2.Who, vi a2.Deposit]]), some (.row 1 (List.map vi y7.2)), some (.row 7 [.agg [vi a2.Kind, vi a2.From, vi a2.To, vt a2.Grand, vt a2.Place, vt a2.Who, vi a2.Deposit]])] ?_
    refine sj ?_
    refine rk 3 (.k4 (.k4 (.k (.i 106 (vi (ix y7.2 v9)) (.i 107 (vi (ix y7.2 v9)) (.i 108 (vi (a2.To - a2.From)) .n)))))) ?_
    refine cK h fun c12 h => ?_
    refine jo 109 (.bin .add false 107 108) (r_add rfl rfl c12) ?_
    refine jko 4 (.d (.k4 (.k4 (.k .n)))) [some (.row 7 [.agg [vi a2.Kind, vi a2.From, vi a2.To, vt a2.Grand, vt a2.Place, vt a2.Who, vi a2.Deposit]]), some (.row 1 (List.map vi y7.2)), some (.row 7 [.agg [vi a2.Kind, vi (ix y7.2 v9), vi ((ix y7.2 v9) + (a2.To - a2.From)), vt a2.Grand, vt a2.Place, vt a2.Who, vi a2.Deposit]])] ?_
    refine sj ?_
    refine rk 3 (.k4 (.k4 (.i 113 (.p (.pointer none)) (.i 114 (eS 7 eItem a1) (.i 115 (.agg [vi a2.Kind, vi (ix y7.2 v9), vi ((ix y7.2 v9) + (a2.To - a2.From)), vt a2.Grand, vt a2.Place, vt a2.Who, vi a2.Deposit]) .n))))) ?_
    refine bK h fun y10 hy10 h => ?_
    refine jc 116 [113, 114, 115] (diary_plan_add_ok n a1 (Item.mk a2.Kind (ix y7.2 v9) ((ix y7.2 v9) + (a2.To - a2.From)) a2.Grand a2.Place a2.Who a2.Deposit) y10 hy10) ?_
    refine jk 5 (.d (.k4 (.k4 (.i 21 (vi y10.1) .n)))) ?_
    refine sk (.k4 (.k4 (.i 120 (vb (y10.1 == (0 : Int))) .n))) ?_
    refine tc h (fun c13 h => ?_) (fun c13 h => ?_)
    ·refine sk (.i 6 (vi (ix y7.2 v9)) (.i 7 (vi 0) .n)) ?_
     refine q3 ?_
     have h := si h
     subst h
     exact DoneS.ret (S' := ⟨[(6, vi (ix y7.2 v9)), (7, vi 0)], []⟩) (sc [] (by decide) (by kernel_rfl) ObRen.nil rfl rfl) rfl rfl
    refine q2 ?_
    exact Vs.intro (sc [0, 1] (by decide) (by kernel_rfl) (.cons rfl (obRen_row vi_frz rfl .nil)) rfl rfl) ⟨(), rfl, h⟩
   refine q5 ?_
   exact Vs.intro (sc [] (by decide) (by kernel_rfl) ObRen.nil rfl rfl) ⟨(), rfl, h⟩
  intro k2 h
  refine sj ?_
  refine rk 1 (.k4 (.k (.i 45 (eS 7 eItem a1) .n))) ?_
  refine jo 46 (.len 0 45) (ok_len_m rfl) ?_
  refine jk 1 (.d (.k4 (.k2 (.i 46 (vi (a1.length : Int)) (.i 47 (vi 0) .n))))) ?_
  refine q4 ?_
  refine TriE.loopN h (fun (_ : Unit) => St.mk [(1, eS 7 eItem a1), (3, .ptr 0 0 0), (5, .ptr 1 0 0), (8, .p (.pointer none)), (11, .own 2 0 1), (45, eS 7 eItem a1), (46, vi (a1.length : Int)), (47, vi 0)] [some (.row 6 [.agg [eS 1 vt a0.Places, eS 1 vt a0.Technicians, eS 4 eRoad a0.Roads, eS 3 eGrand a0.Grands, vi a0.Change, vi a0.Lasts]]), some (.row 7 [.agg [vi a2.Kind, vi a2.From, vi a2.To, vt a2.Grand, vt a2.Place, vt a2.Who, vi a2.Deposit]]), some (.row 1 [vi a2.From])]) rfl ?_
  clear h
  rintro back ⟨⟩ h
  dsimp only [diary_FreeFrom_L1] at h
  refine sj ?_
  refine jo 48 (.bin .lss false 47 46) (n_lss (i := 0) (j := a1.length) rfl rfl) ?_
  refine jf (.d (.k4 (.k4 (.i 48 (vb (decide (0 < a1.length))) .n)))) ?_
  refine q1 ?_
  refine tc h (fun c4 h => ?_) (fun c4 h => ?_)
  ·refine q2 ?_
   refine q7 ?_
   refine sj ?_
   refine jo 49 (.iaddr 7 45 47) (ok_iaddr_m (j := 0) rfl rfl rfl c4) ?_
   refine jo 50 (.load true 7 49) (ok_load_fm (v := .agg [vi ((ix a1 0).Kind), vi ((ix a1 0).From), vi ((ix a1 0).To), vt ((ix a1 0).Grand), vt ((ix a1 0).Place), vt ((ix a1 0).Who), vi ((ix a1 0).Deposit)]) rfl c4 rfl) ?_
   refine jko 2 (.d2 (.k4 (.k4 (.i 13 (.ptr 3 0 0) .n)))) [some (.row 6 [.agg [eS 1 vt a0.Places, eS 1 vt a0.Technicians, eS 4 eRoad a0.Roads, eS 3 eGrand a0.Grands, vi a0.Change, vi a0.Lasts]]), some (.row 7 [.agg [vi a2.Kind, vi a2.From, vi a2.To, vt a2.Grand, vt a2.Place, vt a2.Who, vi a2.Deposit]]), some (.row 1 [vi a2.From]), some (.row 7 [.agg [vi ((ix a1 0).Kind), vi ((ix a1 0).From), vi ((ix a1 0).To), vt ((ix a1 0).Grand), vt ((ix a1 0).Place), vt ((ix a1 0).Who), vi ((ix a1 0).Deposit)]])] ?_
   refine sj ?_
   refine rk 9 (.k4 (.d (.k4 (.i 51 (.own 2 0 1) (.i 53 (vi ((ix a1 0).From)) (.i 55 (vi ((ix a1 0).To)) (.i 57 (vi ((ix a1 0).To)) (.i 59 (vi a0.Change) .n)))))))) ?_
   refine cK h fun c5 h => ?_
   refine jo 60 (.bin .add false 57 59) (r_add rfl rfl c5) ?_
   refine rko 1 (.d (.k4 (.k4 (.k (.i 61 (.own 4 0 3) .n))))) [some (.row 6 [.agg [eS 1 vt a0.Places, eS 1 vt a0.Technicians, eS 4 eRoad a0.Roads, eS 3 eGrand a0.Grands, vi a0.Change, vi a0.Lasts]]), some (.row 7 [.agg [vi a2.Kind, vi a2.From, vi a2.To, vt a2.Grand, vt a2.Place, vt a2.Who, vi a2.Deposit]]), some (.row 1 [vi a2.From]), some (.row 7 [.agg [vi ((ix a1 0).Kind), vi ((ix a1 0).From), vi ((ix a1 0).To), vt ((ix a1 0).Grand), vt ((ix a1 0).Place), vt ((ix a1 0).Who), vi ((ix a1 0).Deposit)]]), some (.row 1 [vi ((ix a1 0).From), vi ((ix a1 0).To), vi (((ix a1 0).To) + a0.Change)])] ?_
   refine cK h fun c6 h => ?_
   refine jx 62 (.app 1 8 51 61) _ (ok_app_own (l := ([a2.From] : List Int)) (l2 := ([(ix a1 0).From, (ix a1 0).To, ((ix a1 0).To) + a0.Change] : List Int)) (e := vi) (u := .own 4 0 3) rfl rfl rfl rfl rfl c6) rfl rfl ?_
   refine jk 1 (.d (.k4 (.k4 (.i 11 (.own 5 0 ((([a2.From] : List Int) ++ ([(ix a1 0).From, (ix a1 0).To, ((ix a1 0).To) + a0.Change] : List Int)).length)) .n)))) ?_
   refine sj ?_
   refine rk 5 (.k4 (.k4 (.k (.i 64 (.p (.pointer none)) (.i 66 (vt ((ix a1 0).Place)) (.i 68 (vt a2.Place) .n)))))) ?_
   cases h
  refine q5 ?_
  exact Vs.intro (sc [1, 2] (by decide) (by kernel_rfl) (.cons rfl (.cons rfl .nil)) rfl rfl) ⟨(), rfl, h⟩
 ·rintro ⟨v11, v12⟩ h
  refine q7 ?_
  refine sk (.k4 (.k (.i 28 (vb (v11 != (0 : Int))) .n))) ?_
  refine tc h (fun c15 h => ?_) (fun c15 h => ?_)
  ·refine sk (.i 6 (vi 0) (.i 7 (vi v11) .n)) ?_
   refine q3 ?_
   have h := si h
   subst h
   exact DoneS.ret (S' := ⟨[(6, vi 0), (7, vi v11)], []⟩) (sc [] (by decide) (by kernel_rfl) ObRen.nil rfl rfl) rfl rfl
  refine sj ?_
  refine rk 1 (.k4 (.i 33 (eS 7 eItem a1) .n)) ?_
  refine jo 34 (.len 0 33) (ok_len_m rfl) ?_
  refine jo 35 (.bin .geq false 34 (ki 100)) (n_geq (i := a1.length) (j := 100) rfl rfl) ?_
  refine jk 1 (.d2 (.k4 (.i 32 (vb (decide (100 ≤ a1.length))) .n))) ?_
  refine tc h (fun c16 h => ?_) (fun c16 h => ?_)
  ·refine sk (.i 6 (vi 0) (.i 7 (vi 8) .n)) ?_
   refine q3 ?_
   have h := si h
   subst h
   exact DoneS.ret (S' := ⟨[(6, vi 0), (7, vi 8)], []⟩) (sc [] (by decide) (by kernel_rfl) ObRen.nil rfl rfl) rfl rfl
  refine q2 ?_
  refine q1 ?_
  refine sj ?_
  refine rk 2 (.k4 (.i 36 (.agg [eS 1 vt a0.Places, eS 1 vt a0.Technicians, eS 4 eRoad a0.Roads, eS 3 eGrand a0.Grands, vi a0.Change, vi a0.Lasts]) (.i 37 (.agg [vi a2.Kind, vi a2.From, vi a2.To, vt a2.Grand, vt a2.Place, vt a2.Who, vi a2.Deposit]) .n))) ?_
  refine bK h fun y13 hy13 h => ?_
  refine jc 38 [36, 37] (diary_checkItem_ok n a0 a2 y13 hy13) ?_
  refine jk 1 (.d (.k4 (.i 10 (vi y13) .n))) ?_
  refine sk (.k4 (.k (.i 40 (vb (y13 != (0 : Int))) .n))) ?_
  refine tc h (fun c17 h => ?_) (fun c17 h => ?_)
  ·refine sk (.i 6 (vi 0) (.i 7 (vi y13) .n)) ?_
   refine q3 ?_
   have h := si h
   subst h
   exact DoneS.ret (S' := ⟨[(6, vi 0), (7, vi y13)], []⟩) (sc [] (by decide) (by kernel_rfl) ObRen.nil rfl rfl) rfl rfl
  refine q2 ?_
  refine sko (.k4 (.i 11 (.own 4 0 1) .n)) [some (.row 6 [.agg [eS 1 vt a0.Places, eS 1 vt a0.Technicians, eS 4 eRoad a0.Roads, eS 3 eGrand a0.Grands, vi a0.Change, vi a0.Lasts]]), some (.row 7 [.agg [vi a2.Kind, vi a2.From, vi a2.To, vt a2.Grand, vt a2.Place, vt a2.Who, vi a2.Deposit]]), some (.mp (mpE vi (eM eArr2_Str vi) v12)), some (.row 7 [.agg [eS 1 vt a0.Places, eS 1 vt a0.Technicians, eS 4 eRoad a0.Roads, eS 3 eGrand a0.Grands, vi a0.Change, vi a0.Lasts, .map 2]]), some (.row 1 [vi a2.From])] ?_
  refine TriE.seqK h (fun (t : (List Int) × (List (Int × List (Arr2_Str × Int)))) => match t with | (v23, v24) => St.mk [(1, eS 7 eItem a1), (5, .ptr 0 0 0), (8, .ptr 2 0 0), (11, .own 3 0 v23.length)] [some (.row 7 [.agg [vi a2.Kind, vi a2.From, vi a2.To, vt a2.Grand, vt a2.Place, vt a2.Who, vi a2.Deposit]]), some (.mp (mpE vi (eM eArr2_Str vi) v24)), some (.row 7 [.agg [eS 1 vt a0.Places, eS 1 vt a0.Technicians, eS 4 eRoad a0.Roads, eS 3 eGrand a0.Grands, vi a0.Change, vi a0.Lasts, .map 1]]), some (.row 1 (List.map vi v23))]) ?_ ?_
  ·rintro ⟨v23, v24⟩ h
   refine sj ?_
   refine rk 1 (.k4 (.i 81 (.own 3 0 v23.length) .n)) ?_
   refine bK h fun y25 hy25 h => ?_
   refine jco (.tup []) 82 [81] (slices_Sort_int_ok n v23 y25 hy25) [3] rfl (.same (row_ren vi_frz _ _ _) .nil) (.same (row_ren vi_frz _ _ _) .nil) rfl ?_
   refine cK h fun c25 h => ?_
   refine RegJ.sees (S' := ⟨[(1, eS 7 eItem a1), (5, .ptr 0 0 0), (8, .ptr 2 0 0), (11, .own 3 0 y25.length), (81, .own 3 0 y25.length), (82, .tup [])], [some (.row 7 [.agg [vi a2.Kind, vi a2.From, vi a2.To, vt a2.Grand, vt a2.Place, vt a2.Who, vi a2.Deposit]]), some (.mp (mpE vi (eM eArr2_Str vi) v24)), some (.row 7 [.agg [eS 1 vt a0.Places, eS 1 vt a0.Technicians, eS 4 eRoad a0.Roads, eS 3 eGrand a0.Grands, vi a0.Change, vi a0.Lasts, .map 1]]), some (.row 1 (List.map vi y25))]⟩) (Sees.cov (Cov.mk2 (rs := [0, 1, 2, 3]) (by decide) rfl rfl (.cons (.inl rfl) (.cons (.inl rfl) (.cons (.inl rfl) (.cons (.inl (by rw [show v23.length = y25.length from of_decide_eq_true c25]; rfl)) (.cons (.inl (by rw [show v23.length = y25.length from of_decide_eq_true c25]; rfl)) (.cons (.inl rfl) .nil)))))) (.cons rfl (obRen_mp vi_frz (eM_frz eArr2_Str vi) rfl (.cons rfl (obRen_row vi_frz rfl .nil)))))) ?_
   refine jf (.k4 .n) ?_
   refine sj ?_
   refine rk 4 (.k4 (.i 84 (vi a2.To) (.i 86 (vi a2.From) .n))) ?_
   refine cK h fun c26 h => ?_
   refine jo 87 (.bin .sub false 84 86) (r_sub rfl rfl c26) ?_
   refine jk 1 (.d (.k4 (.i 16 (vi (a2.To - a2.From)) .n))) ?_
   refine TriE.seqK h (fun (_ : Unit) => St.mk [] []) ?_ ?_
   ·rintro ⟨⟩ h
    refine sk (.i 6 (vi 0) (.i 7 (vi 12) .n)) ?_
    refine q3 ?_
    have h := si h
    subst h
    exact DoneS.ret Sees.refl rfl rfl
   intro k9 h
   refine sj ?_
   refine rk 1 (.k3 (.d (.k (.i 88 (.own 3 0 y25.length) .n)))) ?_
   refine bK h fun y26 hy26 h => ?_
   refine jco (.own 3 0 y26.1) 89 [88] (slices_Compact_int_ok n y25 0 y25.length y26 hy26) [3] rfl (.same (row_ren vi_frz _ _ _) .nil) (.same (row_ren vi_frz _ _ _) .nil) rfl ?_
   refine cK h fun c27 h => ?_
   refine RegJ.sees (S' := ⟨[(1, eS 7 eItem a1), (5, .ptr 0 0 0), (8, .ptr 2 0 0), (16, vi (a2.To - a2.From)), (88, .own 3 0 y26.2.length), (89, .own 3 0 y26.1)], [some (.row 7 [.agg [vi a2.Kind, vi a2.From, vi a2.To, vt a2.Grand, vt a2.Place, vt a2.Who, vi a2.Deposit]]), some (.mp (mpE vi (eM eArr2_Str vi) v24)), some (.row 7 [.agg [eS 1 vt a0.Places, eS 1 vt a0.Technicians, eS 4 eRoad a0.Roads, eS 3 eGrand a0.Grands, vi a0.Change, vi a0.Lasts, .map 1]]), some (.row 1 (List.map vi y26.2))]⟩) (Sees.cov (Cov.mk2 (rs := [0, 1, 2, 3]) (by decide) rfl rfl (.cons (.inl rfl) (.cons (.inl rfl) (.cons (.inl rfl) (.cons (.inl rfl) (.cons (.inl (by rw [show y25.length = y26.2.length from of_decide_eq_true c27]; rfl)) (.cons (.inl rfl) .nil)))))) (.cons rfl (obRen_mp vi_frz (eM_frz eArr2_Str vi) rfl (.cons rfl (obRen_row vi_frz rfl .nil)))))) ?_
   refine jk 2 (.k4 (.d (.k (.i 90 (vi ((y26.1 : Nat) : Int)) (.i 91 (vi 0) .n))))) ?_
   refine q4 ?_
   refine ts (.k4 (.k2 (.i 91 (vi 0) .n))) ?_
   refine TriE.loopN h (fun (t : Nat × (List (Int × List (Arr2_Str × Int)))) => match t with | (v29, v30) => St.mk [(1, eS 7 eItem a1), (5, .ptr 0 0 0), (8, .ptr 2 0 0), (16, vi (a2.To - a2.From)), (89, .own 3 0 y26.1), (90, vi ((y26.1 : Nat) : Int)), (91, vi v29)] [some (.row 7 [.agg [vi a2.Kind, vi a2.From, vi a2.To, vt a2.Grand, vt a2.Place, vt a2.Who, vi a2.Deposit]]), some (.mp (mpE vi (eM eArr2_Str vi) v30)), some (.row 7 [.agg [eS 1 vt a0.Places, eS 1 vt a0.Technicians, eS 4 eRoad a0.Roads, eS 3 eGrand a0.Grands, vi a0.Change, vi a0.Lasts, .map 1]]), some (.row 1 (List.map vi y26.2))]) rfl ?_
   clear h
   rintro back ⟨v29, v30⟩ h
   dsimp only [diary_FreeFrom_L4] at h
   refine sj ?_
   refine jo 92 (.bin .lss false 91 90) (n_lss (i := v29) (j := y26.1) rfl rfl) ?_
   refine jf (.d (.k4 (.k3 (.i 92 (vb (decide (v29 < y26.1))) .n)))) ?_
   refine q1 ?_
   refine tc h (fun c28 h => ?_) (fun c28 h => ?_)
   ·refine q2 ?_
    refine TriE.seqK h (fun (v32 : (List (Int × List (Arr2_Str × Int)))) => St.mk [(1, eS 7 eItem a1), (5, .ptr 0 0 0), (8, .ptr 2 0 0), (16, vi (a2.To - a2.From)), (89, .own 3 0 y26.1), (90, vi ((y26.1 : Nat) : Int)), (91, vi v29)] [some (.row 7 [.agg [vi a2.Kind, vi a2.From, vi a2.To, vt a2.Grand, vt a2.Place, vt a2.Who, vi a2.Deposit]]), some (.mp (mpE vi (eM eArr2_Str vi) v32)), some (.row 7 [.agg [eS 1 vt a0.Places, eS 1 vt a0.Technicians, eS 4 eRoad a0.Roads, eS 3 eGrand a0.Grands, vi a0.Change, vi a0.Lasts, .map 1]]), some (.row 1 (List.map vi y26.2))]) ?_ ?_
    ·rintro v32 h
     refine q6 ?_
     refine cK h fun c34 h => ?_
     refine jo 122 (.bin .add false 91 (ki 1)) (r_addn (i := v29) (j := 1) rfl rfl c34) ?_
     refine jk 1 (.d (.k4 (.k2 (.i 91 (vi ((v29 + 1 : Nat) : Int)) .n)))) ?_
     exact Vs.intro sy ⟨(v29 + 1, v32), rfl, h⟩
    intro k8 h
    refine q4 ?_
    refine sj ?_
    refine jo 93 (.iaddr 1 89 91) (ok_iaddr_o0 (j := v29) rfl rfl rfl rfl c28) ?_
    refine cK h fun c29 h => ?_
    refine jo 94 (.load false 1 93) (ok_load_pm (l := y26.2) (e := vi) (v := vi (ix y26.2 v29)) rfl rfl c29 rfl) ?_
    refine jk 1 (.d2 (.k4 (.k3 (.i 18 (vi (ix y26.2 v29)) .n)))) ?_
    refine q1 ?_
    refine sj ?_
    refine rk 5 (.k4 (.k4 (.i 99 (vb (decide ((ix y26.2 v29) < a2.From))) .n))) ?_
    refine gj (vi (ix y26.2 v29)) 100 (.mov 18) 99 false rfl ?_
    refine gj (vi (a2.To - a2.From)) 101 (.mov 16) 99 false rfl ?_
    refine cK h fun c30 h => ?_
    refine gv 102 (.bin .add false 100 101) 99 false rfl (fun hg => (r_add rfl rfl (gor c30 hg))) (fun hg => (.cons hg (.cons hg .nil))) ?_
    refine gk (vb (decide ((1000000 : Int) < ((ix y26.2 v29) + (a2.To - a2.From))))) 103 (.bin .gtr false 102 (ki 1000000)) 99 false rfl (fun hg => (.cons hg (.cons rfl .nil))) ?_
    refine po 104 99 103 rfl rfl ?_
    refine jf (.d4 (.d (.k4 (.k4 (.i 104 (vb ((decide ((ix y26.2 v29) < a2.From)) || (decide ((1000000 : Int) < ((ix y26.2 v29) + (a2.To - a2.From)))))) .n))))) ?_
    refine tc h (fun c31 h => ?_) (fun c31 h => ?_)
    ·refine q5 ?_
     exact Vs.intro sy ⟨v30, rfl, h⟩
    refine q2 ?_
    refine sko (.k4 (.k4 (.i 19 (.ptr 4 0 0) .n))) [some (.row 7 [.agg [vi a2.Kind, vi a2.From, vi a2.To, vt a2.Grand, vt a2.Place, vt a2.Who, vi a2.Deposit]]), some (.mp (mpE vi (eM eArr2_Str vi) v30)), some (.row 7 [.agg [eS 1 vt a0.Places, eS 1 vt a0.Technicians, eS 4 eRoad a0.Roads, eS 3 eGrand a0.Grands, vi a0.Change, vi a0.Lasts, .map 1]]), some (.row 1 (List.map vi y26.2)), some (.row 7 [.agg [vi a2.Kind, vi a2.From, vi a2.To, vt a2.Grand, vt a2.Place, vt a2.Who, vi a2.Deposit]])] ?_
    refine sj ?_
    refine rk 3 (.k4 (.k4 (.k (.i 106 (vi (ix y26.2 v29)) (.i 107 (vi (ix y26.2 v29)) (.i 108 (vi (a2.To - a2.From)) .n)))))) ?_
    refine cK h fun c32 h => ?_
    refine jo 109 (.bin .add false 107 108) (r_add rfl rfl c32) ?_
    refine jko 4 (.d (.k4 (.k4 (.k .n)))) [some (.row 7 [.agg [vi a2.Kind, vi a2.From, vi a2.To, vt a2.Grand, vt a2.Place, vt a2.Who, vi a2.Deposit]]), some (.mp (mpE vi (eM eArr2_Str vi) v30)), some (.row 7 [.agg [eS 1 vt a0.Places, eS 1 vt a0.Technicians, eS 4 eRoad a0.Roads, eS 3 eGrand a0.Grands, vi a0.Change, vi a0.Lasts, .map 1]]), some (.row 1 (List.map vi y26.2)), some (.row 7 [.agg [vi a2.Kind, vi (ix y26.2 v29), vi ((ix y26.2 v29) + (a2.To - a2.From)), vt a2.Grand, vt a2.Place, vt a2.Who, vi a2.Deposit]])] ?_
    refine sj ?_
    refine rk 3 (.k4 (.k4 (.i 113 (.ptr 2 0 0) (.i 114 (eS 7 eItem a1) (.i 115 (.agg [vi a2.Kind, vi (ix y26.2 v29), vi ((ix y26.2 v29) + (a2.To - a2.From)), vt a2.Grand, vt a2.Place, vt a2.Who, vi a2.Deposit]) .n))))) ?_
    refine bK h fun y31 hy31 h => ?_
    refine jco (.tup [eS 7 eItem y31.2.2, vi y31.1]) 116 [113, 114, 115] (diary_plan_add_2_ok n a0.Places a0.Technicians a0.Roads a0.Grands a0.Change a0.Lasts v30 a1 (Item.mk a2.Kind (ix y26.2 v29) ((ix y26.2 v29) + (a2.To - a2.From)) a2.Grand a2.Place a2.Who a2.Deposit) y31 hy31) [2, 1] rfl (.cons rfl (.same (mp_ren vi_frz (eM_frz eArr2_Str vi) _ _) .nil)) (.cons rfl (.same (mp_ren vi_frz (eM_frz eArr2_Str vi) _ _) .nil)) rfl ?_
    refine jk 5 (.d (.k4 (.k4 (.i 21 (vi y31.1) .n)))) ?_
    refine sk (.k4 (.k4 (.i 120 (vb (y31.1 == (0 : Int))) .n))) ?_
    refine tc h (fun c33 h => ?_) (fun c33 h => ?_)
    ·refine sk (.i 6 (vi (ix y26.2 v29)) (.i 7 (vi 0) .n)) ?_
     refine q3 ?_
     have h := si h
     subst h
     exact DoneS.ret (S' := ⟨[(6, vi (ix y26.2 v29)), (7, vi 0)], []⟩) (sc [] (by decide) (by kernel_rfl) ObRen.nil rfl rfl) rfl rfl
    refine q2 ?_
    exact Vs.intro (sc [0, 1, 2, 3] (by decide) (by kernel_rfl) (.cons rfl (obRen_mp vi_frz (eM_frz eArr2_Str vi) rfl (.cons rfl (obRen_row vi_frz rfl .nil)))) rfl rfl) ⟨y31.2.1, rfl, h⟩
   refine q5 ?_
   exact Vs.intro (sc [] (by decide) (by kernel_rfl) ObRen.nil rfl rfl) ⟨(), rfl, h⟩
  intro k7 h
  refine sj ?_
  refine rk 1 (.k4 (.k (.i 45 (eS 7 eItem a1) .n))) ?_
  refine jo 46 (.len 0 45) (ok_len_m rfl) ?_
  refine jk 1 (.d (.k4 (.k2 (.i 46 (vi (a1.length : Int)) (.i 47 (vi 0) .n))))) ?_
  refine q4 ?_
  refine TriE.sees (S' := ⟨[(1, eS 7 eItem a1), (3, .ptr 0 0 0), (5, .ptr 1 0 0), (8, .ptr 3 0 0), (11, .own 4 0 ([a2.From] : List Int).length), (45, eS 7 eItem a1), (46, vi (a1.length : Int)), (47, vi 0)], [some (.row 6 [.agg [eS 1 vt a0.Places, eS 1 vt a0.Technicians, eS 4 eRoad a0.Roads, eS 3 eGrand a0.Grands, vi a0.Change, vi a0.Lasts]]), some (.row 7 [.agg [vi a2.Kind, vi a2.From, vi a2.To, vt a2.Grand, vt a2.Place, vt a2.Who, vi a2.Deposit]]), some (.mp (mpE vi (eM eArr2_Str vi) v12)), some (.row 7 [.agg [eS 1 vt a0.Places, eS 1 vt a0.Technicians, eS 4 eRoad a0.Roads, eS 3 eGrand a0.Grands, vi a0.Change, vi a0.Lasts, .map 2]]), some (.row 1 (List.map vi ([a2.From] : List Int)))]⟩) sy ?_
  refine TriE.loopN h (fun (t : Nat × (List Int) × (List (Int × List (Arr2_Str × Int)))) => match t with | (v17, v18, v19) => St.mk [(1, eS 7 eItem a1), (3, .ptr 0 0 0), (5, .ptr 1 0 0), (8, .ptr 3 0 0), (11, .own 4 0 v18.length), (45, eS 7 eItem a1), (46, vi (a1.length : Int)), (47, vi v17)] [some (.row 6 [.agg [eS 1 vt a0.Places, eS 1 vt a0.Technicians, eS 4 eRoad a0.Roads, eS 3 eGrand a0.Grands, vi a0.Change, vi a0.Lasts]]), some (.row 7 [.agg [vi a2.Kind, vi a2.From, vi a2.To, vt a2.Grand, vt a2.Place, vt a2.Who, vi a2.Deposit]]), some (.mp (mpE vi (eM eArr2_Str vi) v19)), some (.row 7 [.agg [eS 1 vt a0.Places, eS 1 vt a0.Technicians, eS 4 eRoad a0.Roads, eS 3 eGrand a0.Grands, vi a0.Change, vi a0.Lasts, .map 2]]), some (.row 1 (List.map vi v18))]) rfl ?_
  clear h
  rintro back ⟨v17, v18, v19⟩ h
  dsimp only [diary_FreeFrom_L3] at h
  refine sj ?_
  refine jo 48 (.bin .lss false 47 46) (n_lss (i := v17) (j := a1.length) rfl rfl) ?_
  refine jf (.d (.k4 (.k4 (.i 48 (vb (decide (v17 < a1.length))) .n)))) ?_
  refine q1 ?_
  refine tc h (fun c18 h => ?_) (fun c18 h => ?_)
  ·refine q2 ?_
   refine TriE.seqK h (fun (t : (List Int) × (List (Int × List (Arr2_Str × Int)))) => match t with | (v21, v22) => St.mk [(1, eS 7 eItem a1), (3, .ptr 0 0 0), (5, .ptr 1 0 0), (8, .ptr 3 0 0), (45, eS 7 eItem a1), (46, vi (a1.length : Int)), (47, vi v17), (11, .own 4 0 v21.length)] [some (.row 6 [.agg [eS 1 vt a0.Places, eS 1 vt a0.Technicians, eS 4 eRoad a0.Roads, eS 3 eGrand a0.Grands, vi a0.Change, vi a0.Lasts]]), some (.row 7 [.agg [vi a2.Kind, vi a2.From, vi a2.To, vt a2.Grand, vt a2.Place, vt a2.Who, vi a2.Deposit]]), some (.mp (mpE vi (eM eArr2_Str vi) v22)), some (.row 7 [.agg [eS 1 vt a0.Places, eS 1 vt a0.Technicians, eS 4 eRoad a0.Roads, eS 3 eGrand a0.Grands, vi a0.Change, vi a0.Lasts, .map 2]]), some (.row 1 (List.map vi v21))]) ?_ ?_
   ·rintro ⟨v21, v22⟩ h
    refine q6 ?_
    refine cK h fun c24 h => ?_
    refine jo 80 (.bin .add false 47 (ki 1)) (r_addn (i := v17) (j := 1) rfl rfl c24) ?_
    refine jk 1 (.d (.k4 (.k2 (.d (.k (.i 47 (vi ((v17 + 1 : Nat) : Int)) .n)))))) ?_
    exact Vs.intro sy ⟨(v17 + 1, v21, v22), rfl, h⟩
   intro k6 h
   refine q4 ?_
   refine sj ?_
   refine jo 49 (.iaddr 7 45 47) (ok_iaddr_m (j := v17) rfl rfl rfl c18) ?_
   refine jo 50 (.load true 7 49) (ok_load_fm (v := .agg [vi ((ix a1 v17).Kind), vi ((ix a1 v17).From), vi ((ix a1 v17).To), vt ((ix a1 v17).Grand), vt ((ix a1 v17).Place), vt ((ix a1 v17).Who), vi ((ix a1 v17).Deposit)]) rfl c18 rfl) ?_
   refine jko 2 (.d2 (.k4 (.k4 (.i 13 (.ptr 5 0 0) .n)))) [some (.row 6 [.agg [eS 1 vt a0.Places, eS 1 vt a0.Technicians, eS 4 eRoad a0.Roads, eS 3 eGrand a0.Grands, vi a0.Change, vi a0.Lasts]]), some (.row 7 [.agg [vi a2.Kind, vi a2.From, vi a2.To, vt a2.Grand, vt a2.Place, vt a2.Who, vi a2.Deposit]]), some (.mp (mpE vi (eM eArr2_Str vi) v19)), some (.row 7 [.agg [eS 1 vt a0.Places, eS 1 vt a0.Technicians, eS 4 eRoad a0.Roads, eS 3 eGrand a0.Grands, vi a0.Change, vi a0.Lasts, .map 2]]), some (.row 1 (List.map vi v18)), some (.row 7 [.agg [vi ((ix a1 v17).Kind), vi ((ix a1 v17).From), vi ((ix a1 v17).To), vt ((ix a1 v17).Grand), vt ((ix a1 v17).Place), vt ((ix a1 v17).Who), vi ((ix a1 v17).Deposit)]])] ?_
   refine sj ?_
   refine rk 9 (.k4 (.d (.k4 (.i 51 (.own 4 0 v18.length) (.i 53 (vi ((ix a1 v17).From)) (.i 55 (vi ((ix a1 v17).To)) (.i 57 (vi ((ix a1 v17).To)) (.i 59 (vi a0.Change) .n)))))))) ?_
   refine cK h fun c19 h => ?_
   refine jo 60 (.bin .add false 57 59) (r_add rfl rfl c19) ?_
   refine rko 1 (.d (.k4 (.k4 (.k (.i 61 (.own 6 0 3) .n))))) [some (.row 6 [.agg [eS 1 vt a0.Places, eS 1 vt a0.Technicians, eS 4 eRoad a0.Roads, eS 3 eGrand a0.Grands, vi a0.Change, vi a0.Lasts]]), some (.row 7 [.agg [vi a2.Kind, vi a2.From, vi a2.To, vt a2.Grand, vt a2.Place, vt a2.Who, vi a2.Deposit]]), some (.mp (mpE vi (eM eArr2_Str vi) v19)), some (.row 7 [.agg [eS 1 vt a0.Places, eS 1 vt a0.Technicians, eS 4 eRoad a0.Roads, eS 3 eGrand a0.Grands, vi a0.Change, vi a0.Lasts, .map 2]]), some (.row 1 (List.map vi v18)), some (.row 7 [.agg [vi ((ix a1 v17).Kind), vi ((ix a1 v17).From), vi ((ix a1 v17).To), vt ((ix a1 v17).Grand), vt ((ix a1 v17).Place), vt ((ix a1 v17).Who), vi ((ix a1 v17).Deposit)]]), some (.row 1 [vi ((ix a1 v17).From), vi ((ix a1 v17).To), vi (((ix a1 v17).To) + a0.Change)])] ?_
   refine cK h fun c20 h => ?_
   refine jx 62 (.app 1 8 51 61) _ (ok_app_own (l := v18) (l2 := ([(ix a1 v17).From, (ix a1 v17).To, ((ix a1 v17).To) + a0.Change] : List Int)) (e := vi) (u := .own 6 0 3) rfl rfl rfl rfl rfl c20) rfl rfl ?_
   refine jk 1 (.d (.k4 (.k4 (.i 11 (.own 7 0 ((v18 ++ ([(ix a1 v17).From, (ix a1 v17).To, ((ix a1 v17).To) + a0.Change] : List Int)).length)) .n)))) ?_
   refine sj ?_
   refine rk 5 (.k4 (.k4 (.k (.i 64 (.ptr 3 0 0) (.i 66 (vt ((ix a1 v17).Place)) (.i 68 (vt a2.Place) .n)))))) ?_
   refine bK h fun y20 hy20 h => ?_
   refine jco (.tup [vi y20.1, vb y20.2.1]) 69 [64, 66, 68, (ki 1)] (diary_plan_distance_ok n a0.Places a0.Technicians a0.Roads a0.Grands a0.Change a0.Lasts v19 ((ix a1 v17).Place) a2.Place 1 y20 hy20) [3, 2] rfl (.cons rfl (.same (mp_ren vi_frz (eM_frz eArr2_Str vi) _ _) .nil)) (.cons rfl (.same (mp_ren vi_frz (eM_frz eArr2_Str vi) _ _) .nil)) rfl ?_
   refine jk 5 (.d (.k4 (.k4 (.k (.i 14 (vi y20.1) (.i 15 (vb y20.2.1) .n)))))) ?_
   refine sk (.k4 (.k4 (.k2 (.i 72 (vb y20.2.1) .n)))) ?_
   refine tc h (fun c21 h => ?_) (fun c21 h => ?_)
   ·refine q6 ?_
    refine rk 4 (.k4 (.k3 (.i 73 (.own 7 0 ((v18 ++ ([(ix a1 v17).From, (ix a1 v17).To, ((ix a1 v17).To) + a0.Change] : List Int)).length)) (.i 75 (vi ((ix a1 v17).To)) (.i 76 (vi y20.1) .n))))) ?_
    refine cK h fun c22 h => ?_
    refine jo 77 (.bin .add false 75 76) (r_add rfl rfl c22) ?_
    refine rko 1 (.d (.k4 (.k4 (.i 78 (.own 8 0 1) .n)))) [some (.row 6 [.agg [eS 1 vt a0.Places, eS 1 vt a0.Technicians, eS 4 eRoad a0.Roads, eS 3 eGrand a0.Grands, vi a0.Change, vi a0.Lasts]]), some (.row 7 [.agg [vi a2.Kind, vi a2.From, vi a2.To, vt a2.Grand, vt a2.Place, vt a2.Who, vi a2.Deposit]]), some (.mp (mpE vi (eM eArr2_Str vi) y20.2.2)), some (.row 7 [.agg [eS 1 vt a0.Places, eS 1 vt a0.Technicians, eS 4 eRoad a0.Roads, eS 3 eGrand a0.Grands, vi a0.Change, vi a0.Lasts, .map 2]]), none, some (.row 7 [.agg [vi ((ix a1 v17).Kind), vi ((ix a1 v17).From), vi ((ix a1 v17).To), vt ((ix a1 v17).Grand), vt ((ix a1 v17).Place), vt ((ix a1 v17).Who), vi ((ix a1 v17).Deposit)]]), some (.row 1 [vi ((ix a1 v17).From), vi ((ix a1 v17).To), vi (((ix a1 v17).To) + a0.Change)]), some (.row 1 (List.map vi (v18 ++ ([(ix a1 v17).From, (ix a1 v17).To, ((ix a1 v17).To) + a0.Change] : List Int)))), some (.row 1 [vi (((ix a1 v17).To) + y20.1)])] ?_
    refine cK h fun c23 h => ?_
    refine jx 79 (.app 1 8 73 78) _ (ok_app_own (l := (v18 ++ ([(ix a1 v17).From, (ix a1 v17).To, ((ix a1 v17).To) + a0.Change] : List Int))) (l2 := ([((ix a1 v17).To) + y20.1] : List Int)) (e := vi) (u := .own 8 0 1) rfl rfl rfl rfl rfl c23) rfl rfl ?_
    refine jk 1 (.d (.k4 (.k3 (.i 11 (.own 9 0 (((v18 ++ ([(ix a1 v17).From, (ix a1 v17).To, ((ix a1 v17).To) + a0.Change] : List Int)) ++ ([((ix a1 v17).To) + y20.1] : List Int)).length)) .n)))) ?_
    exact Vs.intro (sc [0, 1, 2, 3, 9] (by decide) (by kernel_rfl) (.cons rfl (.cons rfl (obRen_mp vi_frz (eM_frz eArr2_Str vi) rfl (.cons rfl (obRen_row vi_frz rfl .nil))))) rfl rfl) ⟨(((v18 ++ ([(ix a1 v17).From, (ix a1 v17).To, ((ix a1 v17).To) + a0.Change] : List Int)) ++ ([((ix a1 v17).To) + y20.1] : List Int)), y20.2.2), rfl, h⟩
   refine q2 ?_
   exact Vs.intro (sc [0, 1, 2, 3, 7] (by decide) (by kernel_rfl) (.cons rfl (.cons rfl (obRen_mp vi_frz (eM_frz eArr2_Str vi) rfl (.cons rfl (obRen_row vi_frz rfl .nil))))) rfl rfl) ⟨((v18 ++ ([(ix a1 v17).From, (ix a1 v17).To, ((ix a1 v17).To) + a0.Change] : List Int)), y20.2.2), rfl, h⟩
  refine q5 ?_
  exact Vs.intro (sc [1, 2, 3, 4] (by decide) (by kernel_rfl) (.cons rfl (obRen_mp vi_frz (eM_frz eArr2_Str vi) rfl (.cons rfl (obRen_row vi_frz rfl .nil)))) rfl rfl) ⟨(v18, v19), rfl, h⟩
 intro k1 k5 h
 refine q6 ?_
 refine rk 2 (.k3 (.i 23 (.agg [eS 1 vt a0.Places, eS 1 vt a0.Technicians, eS 4 eRoad a0.Roads, eS 3 eGrand a0.Grands, vi a0.Change, vi a0.Lasts]) (.i 24 (eS 7 eItem a1) .n))) ?_
 refine bK h fun y1 hy1 h => ?_
 rcases y1 with y1 | y1
 ·dsimp only at h
  refine jc 25 [23, 24] (diary_read_ok n a0 a1 (Sum.inl y1) hy1) ?_
  refine jk 5 (.d (.k3 (.i 8 (.p (.pointer none)) (.i 9 (vi y1) .n)))) ?_
  exact Vs.intro Sees.refl (.inl ⟨y1, rfl, h⟩)
 dsimp only at h
 refine jco (.tup [.ptr 3 0 0, vi y1.1]) 25 [23, 24] (diary_read_ok n a0 a1 (Sum.inr y1) hy1) [] rfl ObsRen.nil (.same (mp_ren vi_frz (eM_frz eArr2_Str vi) _ _) (.cons rfl .nil)) rfl ?_
 refine jk 5 (.d (.k3 (.i 8 (.ptr 3 0 0) (.i 9 (vi y1.1) .n)))) ?_
 exact Vs.intro Sees.refl (.inr ⟨(y1.1, y1.2), rfl, h⟩)
theorem diary_CheckWindows_ok (n : Nat) (a0 : List Window) (r : Int) (h : diary_CheckWindows n a0 = some r) : FnL Try.prog 39 [eS 2 eWindow a0] [] (vi r) [] := by
 dsimp only [diary_CheckWindows] at h
 refine fo [2] Try.call39 Try.func39 rfl ?_
 refine sk .a ?_
 refine q1 ?_
 refine sj ?_
 refine rk 1 (.k (.i 5 (eS 2 eWindow a0) .n)) ?_
 refine jo 6 (.len 0 5) (ok_len_m rfl) ?_
 refine jo 7 (.bin .gtr false 6 (ki 60)) (n_gtr (i := a0.length) (j := 60) rfl rfl) ?_
 refine jf (.d2 (.k (.i 7 (vb (decide (60 < a0.length))) .n))) ?_
 refine tc h (fun c1 h => ?_) (fun c1 h => ?_)
 ·refine sk (.i 2 (vi 8) .n) ?_
  refine q3 ?_
  have h := si h
  subst h
  exact DoneS.ret Sees.refl rfl rfl
 refine q2 ?_
 refine TriE.seqK h (fun (_ : Unit) => St.mk [] []) ?_ ?_
 ·rintro ⟨⟩ h
  refine sk (.i 2 (vi 0) .n) ?_
  refine q3 ?_
  have h := si h
  subst h
  exact DoneS.ret Sees.refl rfl rfl
 intro k1 h
 refine sj ?_
 refine rk 1 (.i 8 (eS 2 eWindow a0) .n) ?_
 refine jo 9 (.len 0 8) (ok_len_m rfl) ?_
 refine jk 1 (.d (.k (.i 9 (vi (a0.length : Int)) (.i 10 (vi 0) .n)))) ?_
 refine q4 ?_
 refine ts (.k2 (.i 10 (vi 0) .n)) ?_
 refine TriE.loopN h (fun (v3 : Nat) => St.mk [(8, eS 2 eWindow a0), (9, vi (a0.length : Int)), (10, vi v3)] []) rfl ?_
 clear h
 rintro back v3 h
 dsimp only [diary_CheckWindows_L1] at h
 refine sj ?_
 refine jo 11 (.bin .lss false 10 9) (n_lss (i := v3) (j := a0.length) rfl rfl) ?_
 refine jf (.d (.k3 (.i 11 (vb (decide (v3 < a0.length))) .n))) ?_
 refine q1 ?_
 refine tc h (fun c2 h => ?_) (fun c2 h => ?_)
 ·refine q2 ?_
  refine q7 ?_
  refine sj ?_
  refine jo 12 (.iaddr 2 8 10) (ok_iaddr_m (j := v3) rfl rfl rfl c2) ?_
  refine jo 13 (.load true 2 12) (ok_load_fm (v := .agg [vi ((ix a0 v3).From), vi ((ix a0 v3).To)]) rfl c2 rfl) ?_
  refine jko 2 (.d2 (.k3 (.i 4 (.ptr 0 0 0) .n))) [some (.row 2 [.agg [vi ((ix a0 v3).From), vi ((ix a0 v3).To)]])] ?_
  refine q4 ?_
  refine sj ?_
  refine rk 2 (.k4 (.i 16 (vi ((ix a0 v3).From)) .n)) ?_
  refine bK h fun y4 hy4 h => ?_
  refine jc 17 [16, (ki 0), (ki 1000)] (diary_within_ok n ((ix a0 v3).From) 0 1000 y4 hy4) ?_
  refine rk 2 (.d (.k4 (.i 19 (vb (!((decide (0 ≤ ((ix a0 v3).From))) && (decide (((ix a0 v3).From) ≤ 1000))))) .n))) ?_
  refine gj (.ptr 0 0 1) 20 (.faddr 1 4) 19 false rfl ?_
  refine gk (vi ((ix a0 v3).To)) 21 (.load false 1 20) 19 false rfl (fun hg => (.cons hg .nil)) ?_
  refine bK h fun y5 hy5 h => ?_
  refine gc 22 [21, (ki 0), (ki 1000)] 19 false rfl (fun hg => diary_within_ok n ((ix a0 v3).To) 0 1000 y5 (gcall_some hy5 hg)) (fun hg => (.cons rfl (.cons hg (.cons rfl (.cons rfl .nil))))) (fun hg => by kernel_rfl) ?_
  refine gk (vb (!((decide (0 ≤ ((ix a0 v3).To))) && (decide (((ix a0 v3).To) ≤ 1000))))) 23 (.un .not 22) 19 false rfl (fun hg => (.cons hg .nil)) ?_
  refine po 24 19 23 rfl rfl ?_
  refine jk 1 (.d4 (.d (.k4 (.i 14 (vb ((!((decide (0 ≤ ((ix a0 v3).From))) && (decide (((ix a0 v3).From) ≤ 1000)))) || (!((decide (0 ≤ ((ix a0 v3).To))) && (decide (((ix a0 v3).To) ≤ 1000)))))) .n)))) ?_
  refine tc h (fun c3 h => ?_) (fun c3 h => ?_)
  ·refine sk (.i 2 (vi 2) .n) ?_
   refine q3 ?_
   have h := si h
   subst h
   exact DoneS.ret (S' := ⟨[(2, vi 2)], []⟩) (sc [] (by decide) (by kernel_rfl) ObRen.nil rfl rfl) rfl rfl
  refine sk (.k3 (.i 25 (vb (decide (((ix a0 v3).To) ≤ ((ix a0 v3).From)))) .n)) ?_
  refine tc h (fun c4 h => ?_) (fun c4 h => ?_)
  ·refine sk (.i 2 (vi 9) .n) ?_
   refine q3 ?_
   have h := si h
   subst h
   exact DoneS.ret (S' := ⟨[(2, vi 9)], []⟩) (sc [] (by decide) (by kernel_rfl) ObRen.nil rfl rfl) rfl rfl
  refine q2 ?_
  refine q6 ?_
  refine cK h fun c5 h => ?_
  refine jo 31 (.bin .add false 10 (ki 1)) (r_addn (i := v3) (j := 1) rfl rfl c5) ?_
  refine jk 1 (.d (.k2 (.i 10 (vi ((v3 + 1 : Nat) : Int)) .n))) ?_
  exact Vs.intro (sc [] (by decide) (by kernel_rfl) ObRen.nil rfl rfl) ⟨(v3 + 1), rfl, h⟩
 refine q5 ?_
 exact Vs.intro sy ⟨(), rfl, h⟩
theorem math_bits_Mul64_ok (n : Nat) (a0 : Int) (a1 : Int) (r : Unit) (h : math_bits_Mul64 n a0 a1 = some r) : FnL Try.prog 147 [vk .u64 a0, vk .u64 a1] [] (.tup [vk .u64 (IntKind.u64.wrap ((IntKind.u64.wrap ((IntKind.u64.wrap ((Int.fdiv a0 (2 ^ (min 32 64))) * (Int.fdiv a1 (2 ^ (min 32 64))))) + (Int.fdiv (IntKind.u64.wrap ((IntKind.u64.wrap ((Int.fdiv a0 (2 ^ (min 32 64))) * (iAnd .u64 a1 4294967295))) + (Int.fdiv (IntKind.u64.wrap ((iAnd .u64 a0 4294967295) * (iAnd .u64 a1 4294967295))) (2 ^ (min 32 64))))) (2 ^ (min 32 64))))) + (Int.fdiv (IntKind.u64.wrap ((iAnd .u64 (IntKind.u64.wrap ((IntKind.u64.wrap ((Int.fdiv a0 (2 ^ (min 32 64))) * (iAnd .u64 a1 4294967295))) + (Int.fdiv (IntKind.u64.wrap ((iAnd .u64 a0 4294967295) * (iAnd .u64 a1 4294967295))) (2 ^ (min 32 64))))) 4294967295) + (IntKind.u64.wrap ((iAnd .u64 a0 4294967295) * (Int.fdiv a1 (2 ^ (min 32 64))))))) (2 ^ (min 32 64))))), vk .u64 (IntKind.u64.wrap (a0 * a1))]) [] := by
 dsimp only [math_bits_Mul64] at h
 refine fo [4, 5] Try.call147 Try.func147 rfl ?_
 refine sk .a ?_
 refine sk (.k2 (.i 6 (vk .u64 (iAnd .u64 a0 4294967295)) .n)) ?_
 refine sk (.k3 (.i 7 (vk .u64 (Int.fdiv a0 (2 ^ (min 32 64)))) .n)) ?_
 refine sk (.k4 (.i 8 (vk .u64 (iAnd .u64 a1 4294967295)) .n)) ?_
 refine sk (.k4 (.k (.i 9 (vk .u64 (Int.fdiv a1 (2 ^ (min 32 64)))) .n))) ?_
 refine sk (.k4 (.k2 (.i 10 (vk .u64 (IntKind.u64.wrap ((iAnd .u64 a0 4294967295) * (iAnd .u64 a1 4294967295)))) .n))) ?_
 refine sk (.k4 (.d (.k (.i 11 (vk .u64 (IntKind.u64.wrap ((IntKind.u64.wrap ((Int.fdiv a0 (2 ^ (min 32 64))) * (iAnd .u64 a1 4294967295))) + (Int.fdiv (IntKind.u64.wrap ((iAnd .u64 a0 4294967295) * (iAnd .u64 a1 4294967295))) (2 ^ (min 32 64)))))) .n)))) ?_
 refine sk (.k4 (.k2 (.i 12 (vk .u64 (iAnd .u64 (IntKind.u64.wrap ((IntKind.u64.wrap ((Int.fdiv a0 (2 ^ (min 32 64))) * (iAnd .u64 a1 4294967295))) + (Int.fdiv (IntKind.u64.wrap ((iAnd .u64 a0 4294967295) * (iAnd .u64 a1 4294967295))) (2 ^ (min 32 64))))) 4294967295)) .n))) ?_
 refine sk (.k4 (.k (.d (.k (.i 13 (vk .u64 (Int.fdiv (IntKind.u64.wrap ((IntKind.u64.wrap ((Int.fdiv a0 (2 ^ (min 32 64))) * (iAnd .u64 a1 4294967295))) + (Int.fdiv (IntKind.u64.wrap ((iAnd .u64 a0 4294967295) * (iAnd .u64 a1 4294967295))) (2 ^ (min 32 64))))) (2 ^ (min 32 64)))) .n))))) ?_
 refine sk (.k2 (.d (.k2 (.d (.k (.i 12 (vk .u64 (IntKind.u64.wrap ((iAnd .u64 (IntKind.u64.wrap ((IntKind.u64.wrap ((Int.fdiv a0 (2 ^ (min 32 64))) * (iAnd .u64 a1 4294967295))) + (Int.fdiv (IntKind.u64.wrap ((iAnd .u64 a0 4294967295) * (iAnd .u64 a1 4294967295))) (2 ^ (min 32 64))))) 4294967295) + (IntKind.u64.wrap ((iAnd .u64 a0 4294967295) * (Int.fdiv a1 (2 ^ (min 32 64)))))))) .n)))))) ?_
 refine sk (.k2 (.i 4 (vk .u64 (IntKind.u64.wrap ((IntKind.u64.wrap ((IntKind.u64.wrap ((Int.fdiv a0 (2 ^ (min 32 64))) * (Int.fdiv a1 (2 ^ (min 32 64))))) + (Int.fdiv (IntKind.u64.wrap ((IntKind.u64.wrap ((Int.fdiv a0 (2 ^ (min 32 64))) * (iAnd .u64 a1 4294967295))) + (Int.fdiv (IntKind.u64.wrap ((iAnd .u64 a0 4294967295) * (iAnd .u64 a1 4294967295))) (2 ^ (min 32 64))))) (2 ^ (min 32 64))))) + (Int.fdiv (IntKind.u64.wrap ((iAnd .u64 (IntKind.u64.wrap ((IntKind.u64.wrap ((Int.fdiv a0 (2 ^ (min 32 64))) * (iAnd .u64 a1 4294967295))) + (Int.fdiv (IntKind.u64.wrap ((iAnd .u64 a0 4294967295) * (iAnd .u64 a1 4294967295))) (2 ^ (min 32 64))))) 4294967295) + (IntKind.u64.wrap ((iAnd .u64 a0 4294967295) * (Int.fdiv a1 (2 ^ (min 32 64))))))) (2 ^ (min 32 64)))))) .n)) ?_
 refine sk (.d2 (.k (.i 5 (vk .u64 (IntKind.u64.wrap (a0 * a1))) .n))) ?_
 refine q3 ?_
 have h := si h
 subst h
 exact DoneS.ret Sees.refl rfl rfl
theorem math_bits_Mul_ok (n : Nat) (a0 : Int) (a1 : Int) (r : Unit) (h : math_bits_Mul n a0 a1 = some r) : FnL Try.prog 137 [vk .u64 a0, vk .u64 a1] [] (.tup [vk .u64 (IntKind.u64.wrap ((IntKind.u64.wrap ((IntKind.u64.wrap ((Int.fdiv a0 (2 ^ (min 32 64))) * (Int.fdiv a1 (2 ^ (min 32 64))))) + (Int.fdiv (IntKind.u64.wrap ((IntKind.u64.wrap ((Int.fdiv a0 (2 ^ (min 32 64))) * (iAnd .u64 a1 4294967295))) + (Int.fdiv (IntKind.u64.wrap ((iAnd .u64 a0 4294967295) * (iAnd .u64 a1 4294967295))) (2 ^ (min 32 64))))) (2 ^ (min 32 64))))) + (Int.fdiv (IntKind.u64.wrap ((iAnd .u64 (IntKind.u64.wrap ((IntKind.u64.wrap ((Int.fdiv a0 (2 ^ (min 32 64))) * (iAnd .u64 a1 4294967295))) + (Int.fdiv (IntKind.u64.wrap ((iAnd .u64 a0 4294967295) * (iAnd .u64 a1 4294967295))) (2 ^ (min 32 64))))) 4294967295) + (IntKind.u64.wrap ((iAnd .u64 a0 4294967295) * (Int.fdiv a1 (2 ^ (min 32 64))))))) (2 ^ (min 32 64))))), vk .u64 (IntKind.u64.wrap (a0 * a1))]) [] := by
 dsimp only [math_bits_Mul] at h
 refine fo [4, 5] Try.call137 Try.func137 rfl ?_
 refine sk .a ?_
 refine q1 ?_
 refine TriE.cond (b := false) rfl (fun c1 => ?_) (fun c1 => ?_)
 ·cases c1
 refine q2 ?_
 refine sj ?_
 refine rk 2 (.i 23 (vk .u64 a0) (.i 24 (vk .u64 a1) .n)) ?_
 refine bK h fun y1 hy1 h => ?_
 refine jc 25 [23, 24] (math_bits_Mul64_ok n a0 a1 y1 hy1) ?_
 refine jk 5 (.i 8 (vk .u64 (IntKind.u64.wrap ((IntKind.u64.wrap ((IntKind.u64.wrap ((Int.fdiv a0 (2 ^ (min 32 64))) * (Int.fdiv a1 (2 ^ (min 32 64))))) + (Int.fdiv (IntKind.u64.wrap ((IntKind.u64.wrap ((Int.fdiv a0 (2 ^ (min 32 64))) * (iAnd .u64 a1 4294967295))) + (Int.fdiv (IntKind.u64.wrap ((iAnd .u64 a0 4294967295) * (iAnd .u64 a1 4294967295))) (2 ^ (min 32 64))))) (2 ^ (min 32 64))))) + (Int.fdiv (IntKind.u64.wrap ((iAnd .u64 (IntKind.u64.wrap ((IntKind.u64.wrap ((Int.fdiv a0 (2 ^ (min 32 64))) * (iAnd .u64 a1 4294967295))) + (Int.fdiv (IntKind.u64.wrap ((iAnd .u64 a0 4294967295) * (iAnd .u64 a1 4294967295))) (2 ^ (min 32 64))))) 4294967295) + (IntKind.u64.wrap ((iAnd .u64 a0 4294967295) * (Int.fdiv a1 (2 ^ (min 32 64))))))) (2 ^ (min 32 64)))))) (.i 9 (vk .u64 (IntKind.u64.wrap (a0 * a1))) .n)) ?_
 refine sk (.i 4 (vk .u64 (IntKind.u64.wrap ((IntKind.u64.wrap ((IntKind.u64.wrap ((Int.fdiv a0 (2 ^ (min 32 64))) * (Int.fdiv a1 (2 ^ (min 32 64))))) + (Int.fdiv (IntKind.u64.wrap ((IntKind.u64.wrap ((Int.fdiv a0 (2 ^ (min 32 64))) * (iAnd .u64 a1 4294967295))) + (Int.fdiv (IntKind.u64.wrap ((iAnd .u64 a0 4294967295) * (iAnd .u64 a1 4294967295))) (2 ^ (min 32 64))))) (2 ^ (min 32 64))))) + (Int.fdiv (IntKind.u64.wrap ((iAnd .u64 (IntKind.u64.wrap ((IntKind.u64.wrap ((Int.fdiv a0 (2 ^ (min 32 64))) * (iAnd .u64 a1 4294967295))) + (Int.fdiv (IntKind.u64.wrap ((iAnd .u64 a0 4294967295) * (iAnd .u64 a1 4294967295))) (2 ^ (min 32 64))))) 4294967295) + (IntKind.u64.wrap ((iAnd .u64 a0 4294967295) * (Int.fdiv a1 (2 ^ (min 32 64))))))) (2 ^ (min 32 64)))))) (.i 5 (vk .u64 (IntKind.u64.wrap (a0 * a1))) .n)) ?_
 refine q3 ?_
 have h := si h
 subst h
 exact DoneS.ret Sees.refl rfl rfl
set_option maxHeartbeats 1000000 in
theorem slices_Repeat_int_ok (n : Nat) (a0 : List Int) (a1 : Int) (r : (List Int)) (h : slices_Repeat_int n a0 a1 = some r) : FnL Try.prog 116 [.own 0 0 a0.length, vi a1] [some (.row 1 (List.map vi a0))] (.own 1 0 ((List.replicate ((IntKind.u64.wrap ((IntKind.u64.wrap (a0.length : Int)) * (IntKind.u64.wrap a1))).toNat) (0 : Int)).length)) [some (.row 1 (List.map vi a0)), some (.row 1 (List.map vi r))] := by
 dsimp only [slices_Repeat_int] at h
 refine fob [4] Try.call116 Try.func116 rfl (.cons rfl .nil) ?_
 refine sk .a ?_
 refine q1 ?_
 refine sk (.k2 (.i 10 (vb (decide (a1 < (0 : Int)))) .n)) ?_
 refine tc h (fun c1 h => ?_) (fun c1 h => ?_)
 ·refine q6 ?_
  cases h
 refine q2 ?_
 refine sj ?_
 refine rk 5 (.k (.i 15 (vk .u64 (IntKind.u64.wrap (a0.length : Int))) (.i 17 (vk .u64 (IntKind.u64.wrap a1)) .n))) ?_
 refine bK h fun y1 hy1 h => ?_
 refine jc 18 [15, 17] (math_bits_Mul_ok n (IntKind.u64.wrap (a0.length : Int)) (IntKind.u64.wrap a1) y1 hy1) ?_
 refine jk 5 (.d (.k (.i 5 (vk .u64 (IntKind.u64.wrap ((IntKind.u64.wrap ((IntKind.u64.wrap ((Int.fdiv (IntKind.u64.wrap (a0.length : Int)) (2 ^ (min 32 64))) * (Int.fdiv (IntKind.u64.wrap a1) (2 ^ (min 32 64))))) + (Int.fdiv (IntKind.u64.wrap ((IntKind.u64.wrap ((Int.fdiv (IntKind.u64.wrap (a0.length : Int)) (2 ^ (min 32 64))) * (iAnd .u64 (IntKind.u64.wrap a1) 4294967295))) + (Int.fdiv (IntKind.u64.wrap ((iAnd .u64 (IntKind.u64.wrap (a0.length : Int)) 4294967295) * (iAnd .u64 (IntKind.u64.wrap a1) 4294967295))) (2 ^ (min 32 64))))) (2 ^ (min 32 64))))) + (Int.fdiv (IntKind.u64.wrap ((iAnd .u64 (IntKind.u64.wrap ((IntKind.u64.wrap ((Int.fdiv (IntKind.u64.wrap (a0.length : Int)) (2 ^ (min 32 64))) * (iAnd .u64 (IntKind.u64.wrap a1) 4294967295))) + (Int.fdiv (IntKind.u64.wrap ((iAnd .u64 (IntKind.u64.wrap (a0.length : Int)) 4294967295) * (iAnd .u64 (IntKind.u64.wrap a1) 4294967295))) (2 ^ (min 32 64))))) 4294967295) + (IntKind.u64.wrap ((iAnd .u64 (IntKind.u64.wrap (a0.length : Int)) 4294967295) * (Int.fdiv (IntKind.u64.wrap a1) (2 ^ (min 32 64))))))) (2 ^ (min 32 64)))))) (.i 6 (vk .u64 (IntKind.u64.wrap ((IntKind.u64.wrap (a0.length : Int)) * (IntKind.u64.wrap a1)))) .n)))) ?_
 refine q1 ?_
 refine sj ?_
 refine rk 3 (.k (.d (.k (.i 23 (vb (decide ((0 : Int) < (IntKind.u64.wrap ((IntKind.u64.wrap ((IntKind.u64.wrap ((Int.fdiv (IntKind.u64.wrap (a0.length : Int)) (2 ^ (min 32 64))) * (Int.fdiv (IntKind.u64.wrap a1) (2 ^ (min 32 64))))) + (Int.fdiv (IntKind.u64.wrap ((IntKind.u64.wrap ((Int.fdiv (IntKind.u64.wrap (a0.length : Int)) (2 ^ (min 32 64))) * (iAnd .u64 (IntKind.u64.wrap a1) 4294967295))) + (Int.fdiv (IntKind.u64.wrap ((iAnd .u64 (IntKind.u64.wrap (a0.length : Int)) 4294967295) * (iAnd .u64 (IntKind.u64.wrap a1) 4294967295))) (2 ^ (min 32 64))))) (2 ^ (min 32 64))))) + (Int.fdiv (IntKind.u64.wrap ((iAnd .u64 (IntKind.u64.wrap ((IntKind.u64.wrap ((Int.fdiv (IntKind.u64.wrap (a0.length : Int)) (2 ^ (min 32 64))) * (iAnd .u64 (IntKind.u64.wrap a1) 4294967295))) + (Int.fdiv (IntKind.u64.wrap ((iAnd .u64 (IntKind.u64.wrap (a0.length : Int)) 4294967295) * (iAnd .u64 (IntKind.u64.wrap a1) 4294967295))) (2 ^ (min 32 64))))) 4294967295) + (IntKind.u64.wrap ((iAnd .u64 (IntKind.u64.wrap (a0.length : Int)) 4294967295) * (Int.fdiv (IntKind.u64.wrap a1) (2 ^ (min 32 64))))))) (2 ^ (min 32 64)))))))) .n)))) ?_
 refine gj (vk .u64 (IntKind.u64.wrap ((IntKind.u64.wrap (a0.length : Int)) * (IntKind.u64.wrap a1)))) 24 (.mov 6) 23 false rfl ?_
 refine gk (vb (decide ((9223372036854775807 : Int) < (IntKind.u64.wrap ((IntKind.u64.wrap (a0.length : Int)) * (IntKind.u64.wrap a1)))))) 25 (.bin .gtr false 24 (.c (.p (.int .u64 9223372036854775807)))) 23 false rfl (fun hg => (.cons hg (.cons rfl .nil))) ?_
 refine po 26 23 25 rfl rfl ?_
 refine jf (.d3 (.k2 (.i 26 (vb ((decide ((0 : Int) < (IntKind.u64.wrap ((IntKind.u64.wrap ((IntKind.u64.wrap ((Int.fdiv (IntKind.u64.wrap (a0.length : Int)) (2 ^ (min 32 64))) * (Int.fdiv (IntKind.u64.wrap a1) (2 ^ (min 32 64))))) + (Int.fdiv (IntKind.u64.wrap ((IntKind.u64.wrap ((Int.fdiv (IntKind.u64.wrap (a0.length : Int)) (2 ^ (min 32 64))) * (iAnd .u64 (IntKind.u64.wrap a1) 4294967295))) + (Int.fdiv (IntKind.u64.wrap ((iAnd .u64 (IntKind.u64.wrap (a0.length : Int)) 4294967295) * (iAnd .u64 (IntKind.u64.wrap a1) 4294967295))) (2 ^ (min 32 64))))) (2 ^ (min 32 64))))) + (Int.fdiv (IntKind.u64.wrap ((iAnd .u64 (IntKind.u64.wrap ((IntKind.u64.wrap ((Int.fdiv (IntKind.u64.wrap (a0.length : Int)) (2 ^ (min 32 64))) * (iAnd .u64 (IntKind.u64.wrap a1) 4294967295))) + (Int.fdiv (IntKind.u64.wrap ((iAnd .u64 (IntKind.u64.wrap (a0.length : Int)) 4294967295) * (iAnd .u64 (IntKind.u64.wrap a1) 4294967295))) (2 ^ (min 32 64))))) 4294967295) + (IntKind.u64.wrap ((iAnd .u64 (IntKind.u64.wrap (a0.length : Int)) 4294967295) * (Int.fdiv (IntKind.u64.wrap a1) (2 ^ (min 32 64))))))) (2 ^ (min 32 64))))))) || (decide ((9223372036854775807 : Int) < (IntKind.u64.wrap ((IntKind.u64.wrap (a0.length : Int)) * (IntKind.u64.wrap a1))))))) .n))) ?_
 refine tc h (fun c2 h => ?_) (fun c2 h => ?_)
 ·refine q6 ?_
  cases h
 refine q2 ?_
 refine sj ?_
 refine rk 1 (.k (.i 28 (vk .u64 (IntKind.u64.wrap ((IntKind.u64.wrap (a0.length : Int)) * (IntKind.u64.wrap a1)))) .n)) ?_
 refine cK h fun c3 h => ?_
 refine jo 29 (.conv .i64 28) (ok_conv64 rfl c3) ?_
 refine cK h fun c4 h => ?_
 refine cK h fun c5 h => ?_
 refine jx 30 (.mkslice 1 8 (.p (.int .i64 0)) 29 29) _ (ok_mkslice_n (e := vi) (v0 := (0 : Int)) (j := (IntKind.u64.wrap ((IntKind.u64.wrap (a0.length : Int)) * (IntKind.u64.wrap a1))).toNat) rfl rfl (nn_to c4) (nn_to c4) rfl rfl c5) rfl rfl ?_
 refine jk 1 (.d2 (.k (.i 7 (.own 1 0 ((List.replicate ((IntKind.u64.wrap ((IntKind.u64.wrap (a0.length : Int)) * (IntKind.u64.wrap a1))).toNat) (0 : Int)).length)) .n))) ?_
 refine sj ?_
 refine rk 2 (.d (.k (.i 31 (.own 1 0 ((List.replicate ((IntKind.u64.wrap ((IntKind.u64.wrap (a0.length : Int)) * (IntKind.u64.wrap a1))).toNat) (0 : Int)).length)) (.i 32 (.own 0 0 a0.length) .n)))) ?_
 refine cK h fun c6 h => ?_
 refine cK h fun c7 h => ?_
 refine RegJ.cpyM (d := some 33) (k := 1) (e := vi) (l := (List.replicate ((IntKind.u64.wrap ((IntKind.u64.wrap (a0.length : Int)) * (IntKind.u64.wrap a1))).toNat) (0 : Int))) (l2 := (List.take a0.length (List.drop 0 a0))) (nn := 1) (off := 0) (len := (List.replicate ((IntKind.u64.wrap ((IntKind.u64.wrap (a0.length : Int)) * (IntKind.u64.wrap a1))).toNat) (0 : Int)).length) (rd := [0]) (x := .t 31) (y := .t 32) (by kernel_rfl) rfl rfl rfl rfl (els_ow2 (e := vi) (l := a0) rfl rfl c7) (fun _ h => nomatch h) c6 ?_
 refine jq 1 [(7, .own 1 0 ((List.replicate ((IntKind.u64.wrap ((IntKind.u64.wrap (a0.length : Int)) * (IntKind.u64.wrap a1))).toNat) (0 : Int)).length)), (8, vi ((Nat.min (List.take a0.length (List.drop 0 a0)).length ((List.replicate ((IntKind.u64.wrap ((IntKind.u64.wrap (a0.length : Int)) * (IntKind.u64.wrap a1))).toNat) (0 : Int)).length) : Nat) : Int))] [some (.row 1 (List.map vi a0)), some (.row 1 (List.map vi (cpyP (List.replicate ((IntKind.u64.wrap ((IntKind.u64.wrap (a0.length : Int)) * (IntKind.u64.wrap a1))).toNat) (0 : Int)) 0 (List.take (Nat.min (List.take a0.length (List.drop 0 a0)).length ((List.replicate ((IntKind.u64.wrap ((IntKind.u64.wrap (a0.length : Int)) * (IntKind.u64.wrap a1))).toNat) (0 : Int)).length)) (List.take a0.length (List.drop 0 a0))))))] ?_
 refine TriE.seqK h (fun (v4 : (List Int)) => St.mk [(7, .own 1 0 ((List.replicate ((IntKind.u64.wrap ((IntKind.u64.wrap (a0.length : Int)) * (IntKind.u64.wrap a1))).toNat) (0 : Int)).length))] [some (.row 1 (List.map vi a0)), some (.row 1 (List.map vi v4))]) ?_ ?_
 ·rintro v4 h
  refine sk (.i 4 (.own 1 0 ((List.replicate ((IntKind.u64.wrap ((IntKind.u64.wrap (a0.length : Int)) * (IntKind.u64.wrap a1))).toNat) (0 : Int)).length)) .n) ?_
  refine q3 ?_
  have h := si h
  subst h
  exact DoneS.ret Sees.refl rfl rfl
 intro k1 h
 refine q4 ?_
 refine ts (.k (.i 8 (vi (((Nat.min (List.take a0.length (List.drop 0 a0)).length ((List.replicate ((IntKind.u64.wrap ((IntKind.u64.wrap (a0.length : Int)) * (IntKind.u64.wrap a1))).toNat) (0 : Int)).length)) : Nat) : Int)) .n)) ?_
 refine TriE.loopN h (fun (t : Nat × (List Int)) => match t with | (v2, v3) => St.mk [(7, .own 1 0 ((List.replicate ((IntKind.u64.wrap ((IntKind.u64.wrap (a0.length : Int)) * (IntKind.u64.wrap a1))).toNat) (0 : Int)).length)), (8, vi v2)] [some (.row 1 (List.map vi a0)), some (.row 1 (List.map vi v3))]) rfl ?_
 clear h
 rintro back ⟨v2, v3⟩ h
 dsimp only [slices_Repeat_int_L1] at h
 refine q1 ?_
 refine sj ?_
 refine rk 3 (.k2 (.i 34 (vi v2) (.i 36 (vi (((List.replicate ((IntKind.u64.wrap ((IntKind.u64.wrap (a0.length : Int)) * (IntKind.u64.wrap a1))).toNat) (0 : Int)).length : Nat) : Int)) .n))) ?_
 refine jo 37 (.bin .lss false 34 36) (n_lss (i := v2) (j := (List.replicate ((IntKind.u64.wrap ((IntKind.u64.wrap (a0.length : Int)) * (IntKind.u64.wrap a1))).toNat) (0 : Int)).length) rfl rfl) ?_
 refine jf (.d (.k2 (.i 37 (vb (decide (v2 < ((List.replicate ((IntKind.u64.wrap ((IntKind.u64.wrap (a0.length : Int)) * (IntKind.u64.wrap a1))).toNat) (0 : Int)).length)))) .n))) ?_
 refine tc h (fun c8 h => ?_) (fun c8 h => ?_)
 ·refine q2 ?_
  refine q4 ?_
  refine ts (.k2 .n) ?_
  refine TriE.draw (by kernel_rfl) ?_
  refine dk 3 (.i 40 (vi v2) (.i 39 (.own 1 0 ((List.replicate ((IntKind.u64.wrap ((IntKind.u64.wrap (a0.length : Int)) * (IntKind.u64.wrap a1))).toNat) (0 : Int)).length)) (.i 38 (vi v2) .a))) ?_
  refine dp 41 (.slc 1 39 (some 40) none none) (ok_slco_lo0 (i := v2) rfl rfl rfl rfl c8) ?_
  refine dk 2 (.i 43 (vi v2) (.i 42 (.own 1 0 ((List.replicate ((IntKind.u64.wrap ((IntKind.u64.wrap (a0.length : Int)) * (IntKind.u64.wrap a1))).toNat) (0 : Int)).length)) .a)) ?_
  refine cK h fun c9 h => ?_
  refine dp 44 (.slc 1 42 none (some 43) none) (ok_slco_hi (j := v2) rfl rfl rfl rfl c9) ?_
  refine cK h fun c10 h => ?_
  refine cK h fun c11 h => ?_
  refine RegD.op (OpD.cpyM (k := 1) (e := vi) (l := v3) (l2 := (List.take v2 (List.drop 0 v3))) (nn := 1) (off := v2) (len := ((List.replicate ((IntKind.u64.wrap ((IntKind.u64.wrap (a0.length : Int)) * (IntKind.u64.wrap a1))).toNat) (0 : Int)).length) - v2) (rd := [1]) (x := .t 41) (y := .t 44) (by kernel_rfl) (cy (I0 45 (.copy 1 41 44))) rfl rfl rfl rfl rfl (els_ow2 (e := vi) (l := v3) rfl rfl c11) (fun _ h => nomatch h) c10) ?_
  refine cK h fun c12 h => ?_
  refine dp 46 (.bin .add false 38 45) (r_addn (i := v2) (j := Nat.min (List.take v2 (List.drop 0 v3)).length (((List.replicate ((IntKind.u64.wrap ((IntKind.u64.wrap (a0.length : Int)) * (IntKind.u64.wrap a1))).toNat) (0 : Int)).length) - v2)) rfl rfl c12) ?_
  refine RegD.run 1 [(8, vi ((v2 + (Nat.min (List.take v2 (List.drop 0 v3)).length (((List.replicate ((IntKind.u64.wrap ((IntKind.u64.wrap (a0.length : Int)) * (IntKind.u64.wrap a1))).toNat) (0 : Int)).length) - v2)) : Nat) : Int)), (46, vi ((v2 + (Nat.min (List.take v2 (List.drop 0 v3)).length (((List.replicate ((IntKind.u64.wrap ((IntKind.u64.wrap (a0.length : Int)) * (IntKind.u64.wrap a1))).toNat) (0 : Int)).length) - v2)) : Nat) : Int)), (45, vi ((Nat.min (List.take v2 (List.drop 0 v3)).length (((List.replicate ((IntKind.u64.wrap ((IntKind.u64.wrap (a0.length : Int)) * (IntKind.u64.wrap a1))).toNat) (0 : Int)).length) - v2) : Nat) : Int)), (44, .own 1 0 v2), (43, vi v2), (42, .own 1 0 ((List.replicate ((IntKind.u64.wrap ((IntKind.u64.wrap (a0.length : Int)) * (IntKind.u64.wrap a1))).toNat) (0 : Int)).length)), (41, .own 1 v2 (((List.replicate ((IntKind.u64.wrap ((IntKind.u64.wrap (a0.length : Int)) * (IntKind.u64.wrap a1))).toNat) (0 : Int)).length) - v2)), (40, vi v2), (39, .own 1 0 ((List.replicate ((IntKind.u64.wrap ((IntKind.u64.wrap (a0.length : Int)) * (IntKind.u64.wrap a1))).toNat) (0 : Int)).length)), (38, vi v2), (7, .own 1 0 ((List.replicate ((IntKind.u64.wrap ((IntKind.u64.wrap (a0.length : Int)) * (IntKind.u64.wrap a1))).toNat) (0 : Int)).length)), (8, vi v2)] [some (.row 1 (List.map vi a0)), some (.row 1 (List.map vi (cpyP v3 v2 (List.take (Nat.min (List.take v2 (List.drop 0 v3)).length (((List.replicate ((IntKind.u64.wrap ((IntKind.u64.wrap (a0.length : Int)) * (IntKind.u64.wrap a1))).toNat) (0 : Int)).length) - v2)) (List.take v2 (List.drop 0 v3)))))), none, none, none, none, none, none, none, none, none, none] (by kernel_rfl) ?_
  refine dfi (.d4 (.d4 (.d2 (.k (.i 8 (vi ((v2 + (Nat.min (List.take v2 (List.drop 0 v3)).length (((List.replicate ((IntKind.u64.wrap ((IntKind.u64.wrap (a0.length : Int)) * (IntKind.u64.wrap a1))).toNat) (0 : Int)).length) - v2)) : Nat) : Int)) .n))))) [0, 1] (obRen_row vi_frz rfl (obRen_row vi_frz rfl .nil)) ?_
  exact Vs.intro sy ⟨(v2 + (Nat.min (List.take v2 (List.drop 0 v3)).length (((List.replicate ((IntKind.u64.wrap ((IntKind.u64.wrap (a0.length : Int)) * (IntKind.u64.wrap a1))).toNat) (0 : Int)).length) - v2)), (cpyP v3 v2 (List.take (Nat.min (List.take v2 (List.drop 0 v3)).length (((List.replicate ((IntKind.u64.wrap ((IntKind.u64.wrap (a0.length : Int)) * (IntKind.u64.wrap a1))).toNat) (0 : Int)).length) - v2)) (List.take v2 (List.drop 0 v3))))), rfl, h⟩
 refine q5 ?_
 exact Vs.intro sy ⟨v3, rfl, h⟩
set_option maxHeartbeats 1000000 in
theorem diary_schedule_ok (n : Nat) (a0 : List Window) (r : (List Int)) (h : diary_schedule n a0 = some r) : FnL Try.prog 90 [eS 2 eWindow a0] [] (.own 0 0 ((List.replicate ((IntKind.u64.wrap ((IntKind.u64.wrap ((([(-1)] : List Int).length : Nat) : Int)) * (IntKind.u64.wrap ((a0.length : Nat) : Int)))).toNat) (0 : Int)).length)) [some (.row 1 (List.map vi r))] := by
  dsimp only [diary_schedule] at h
  refine FnL.ofS (ts := [2]) Try.call90 Try.func90 rfl rfl (Nat.le_of_ble_eq_true rfl) (Nat.le_of_ble_eq_true rfl) (fun j h => absurd h (Nat.not_lt_zero j)) ?_
  show TriE _ _ _ _ _ (St.mk [(0, eS 2 eWindow a0)] []) _
  refine TriE.seq ?_
  refine TriE.run [(0, eS 2 eWindow a0)] [] (by kernel_rfl) ?_
  refine TriE.seq ?_
  refine TriE.regJ ?_
  refine RegJ.run 2 [(0, eS 2 eWindow a0), (8, .own 0 0 1), (9, eS 2 eWindow a0)] [some (.row 1 [vi (-1)])] (by kernel_rfl) ?_
  refine jv (vi ((a0.length : Nat) : Int)) (cz (I0 10 (.len 0 (.t 9))) (by kernel_rfl)) (ok_len_m rfl) rfl ?_
  refine bK h fun y1 hy1 h => ?_
  refine RegJ.op (Op1.call (y' := .own 1 0 ((List.replicate ((IntKind.u64.wrap ((IntKind.u64.wrap ((([(-1)] : List Int).length : Nat) : Int)) * (IntKind.u64.wrap ((a0.length : Nat) : Int)))).toNat) (0 : Int)).length)) (obx := [some (.row 1 [vi (-1)])]) (oby := [some (.row 1 (List.map vi ([(-1)] : List Int))), some (.row 1 (List.map vi y1))]) (ob2 := [some (.row 1 (List.map vi ([(-1)] : List Int))), some (.row 1 (List.map vi y1))]) _ _ (cz (I0 11 (.call 116 [(.t 8), (.t 10)])) (by kernel_rfl)) rfl (slices_Repeat_int_ok n ([(-1)] : List Int) ((a0.length : Nat) : Int) y1 hy1) [0] (by kernel_rfl) (.cons rfl (.cons rfl (.cons rfl .nil))) (by kernel_rfl) (by kernel_rfl) (.same (row_ren vi_frz _ _ _) .nil) (by kernel_rfl) (.same (row_ren vi_frz _ _ _) (.same (row_ren vi_frz _ _ _) .nil)) (by kernel_rfl)) ?_
  refine jrd 1 [(0, eS 2 eWindow a0), (3, .own 1 0 ((List.replicate ((IntKind.u64.wrap ((IntKind.u64.wrap ((([(-1)] : List Int).length : Nat) : Int)) * (IntKind.u64.wrap ((a0.length : Nat) : Int)))).toNat) (0 : Int)).length))] [some (.row 1 (List.map vi ([(-1)] : List Int))), some (.row 1 (List.map vi y1))] (by kernel_rfl) rfl ?_
  refine TriE.seqK h (fun (v16 : (List Int)) => St.mk [(3, .own 0 0 ((List.replicate ((IntKind.u64.wrap ((IntKind.u64.wrap ((([(-1)] : List Int).length : Nat) : Int)) * (IntKind.u64.wrap ((a0.length : Nat) : Int)))).toNat) (0 : Int)).length))] [some (.row 1 (List.map vi v16))]) ?_ ?_
  · rintro v16 h
    show TriE _ _ _ _ _ (St.mk [(3, .own 0 0 ((List.replicate ((IntKind.u64.wrap ((IntKind.u64.wrap ((([(-1)] : List Int).length : Nat) : Int)) * (IntKind.u64.wrap ((a0.length : Nat) : Int)))).toNat) (0 : Int)).length))] [some (.row 1 (List.map vi v16))]) _
    refine TriE.seq ?_
    refine TriE.run [(2, .own 0 0 ((List.replicate ((IntKind.u64.wrap ((IntKind.u64.wrap ((([(-1)] : List Int).length : Nat) : Int)) * (IntKind.u64.wrap ((a0.length : Nat) : Int)))).toNat) (0 : Int)).length))] [some (.row 1 (List.map vi v16))] (by kernel_rfl) ?_
    refine TriE.ret ?_
    have h := Option.some.inj h
    subst h
    exact DoneS.ret (S' := ⟨[(2, .own 0 0 ((List.replicate ((IntKind.u64.wrap ((IntKind.u64.wrap ((([(-1)] : List Int).length : Nat) : Int)) * (IntKind.u64.wrap ((a0.length : Nat) : Int)))).toNat) (0 : Int)).length))], [some (.row 1 (List.map vi v16))]⟩) Sees.refl rfl rfl
  intro k4 h
  refine TriE.seq ?_
  refine TriE.run [(0, eS 2 eWindow a0), (3, .own 1 0 ((List.replicate ((IntKind.u64.wrap ((IntKind.u64.wrap ((([(-1)] : List Int).length : Nat) : Int)) * (IntKind.u64.wrap ((a0.length : Nat) : Int)))).toNat) (0 : Int)).length)), (12, vi 0)] [some (.row 1 (List.map vi ([(-1)] : List Int))), some (.row 1 (List.map vi y1))] (by kernel_rfl) ?_
  refine TriE.block ?_
  refine TriE.sees (S' := ⟨[(0, eS 2 eWindow a0), (3, .own 0 0 ((List.replicate ((IntKind.u64.wrap ((IntKind.u64.wrap ((([(-1)] : List Int).length : Nat) : Int)) * (IntKind.u64.wrap ((a0.length : Nat) : Int)))).toNat) (0 : Int)).length)), (12, vi ((0 : Nat) : Int))], [some (.row 1 (List.map vi y1))]⟩) (sc [1] (by decide) (by kernel_rfl) (obRen_row vi_frz rfl .nil) rfl rfl) ?_
  refine TriE.loopN h (fun (t : Nat × (List Int)) => match t with | (v8, v9) => St.mk [(0, eS 2 eWindow a0), (3, .own 0 0 ((List.replicate ((IntKind.u64.wrap ((IntKind.u64.wrap ((([(-1)] : List Int).length : Nat) : Int)) * (IntKind.u64.wrap ((a0.length : Nat) : Int)))).toNat) (0 : Int)).length)), (12, vi ((v8 : Nat) : Int))] [some (.row 1 (List.map vi v9))]) rfl ?_
  clear h
  rintro back ⟨v8, v9⟩ h
  dsimp only [diary_schedule_L2] at h
  show TriE _ _ _ _ _ (St.mk [(0, eS 2 eWindow a0), (3, .own 0 0 ((List.replicate ((IntKind.u64.wrap ((IntKind.u64.wrap ((([(-1)] : List Int).length : Nat) : Int)) * (IntKind.u64.wrap ((a0.length : Nat) : Int)))).toNat) (0 : Int)).length)), (12, vi ((v8 : Nat) : Int))] [some (.row 1 (List.map vi v9))]) _
  refine TriE.seq ?_
  refine TriE.regJ ?_
  refine jv (vb (decide (v8 < 1000))) (cz (I0 13 (.bin .lss false (.t 12) (.c (.p (.int .i64 1000))))) (by kernel_rfl)) (n_lss (i := v8) (j := 1000) rfl rfl) rfl ?_
  refine jd [(0, eS 2 eWindow a0), (3, .own 0 0 ((List.replicate ((IntKind.u64.wrap ((IntKind.u64.wrap ((([(-1)] : List Int).length : Nat) : Int)) * (IntKind.u64.wrap ((a0.length : Nat) : Int)))).toNat) (0 : Int)).length)), (12, vi ((v8 : Nat) : Int)), (13, vb (decide (v8 < 1000)))] (by kernel_rfl) rfl ?_
  refine TriE.seq ?_
  refine TriE.cond (b := decide (v8 < 1000)) rfl (fun c1 => ?_) (fun c1 => ?_)
  · have h := cond_t h c1
    refine TriE.skip ?_
    refine TriE.seqK h (fun (v15 : (List Int)) => St.mk [(0, eS 2 eWindow a0), (3, .own 0 0 ((List.replicate ((IntKind.u64.wrap ((IntKind.u64.wrap ((([(-1)] : List Int).length : Nat) : Int)) * (IntKind.u64.wrap ((a0.length : Nat) : Int)))).toNat) (0 : Int)).length)), (12, vi ((v8 : Nat) : Int))] [some (.row 1 (List.map vi v15))]) ?_ ?_
    · rintro v15 h
      show TriE _ _ _ _ _ (St.mk [(0, eS 2 eWindow a0), (3, .own 0 0 ((List.replicate ((IntKind.u64.wrap ((IntKind.u64.wrap ((([(-1)] : List Int).length : Nat) : Int)) * (IntKind.u64.wrap ((a0.length : Nat) : Int)))).toNat) (0 : Int)).length)), (12, vi ((v8 : Nat) : Int))] [some (.row 1 (List.map vi v15))]) _
      refine TriE.regJ ?_
      refine cK h fun c12 h => ?_
      refine jv (vi ((v8 + 1 : Nat) : Int)) (cz (I0 61 (.bin .add false (.t 12) (.c (.p (.int .i64 1))))) (by kernel_rfl)) (r_addn (i := v8) (j := 1) rfl rfl c12) rfl ?_
      refine jrd 1 [(0, eS 2 eWindow a0), (3, .own 0 0 ((List.replicate ((IntKind.u64.wrap ((IntKind.u64.wrap ((([(-1)] : List Int).length : Nat) : Int)) * (IntKind.u64.wrap ((a0.length : Nat) : Int)))).toNat) (0 : Int)).length)), (12, vi ((v8 + 1 : Nat) : Int))] [some (.row 1 (List.map vi v15))] (by kernel_rfl) rfl ?_
      exact Vs.intro (sl (by kernel_rfl)) ⟨(v8 + 1, v15), rfl, h⟩
    intro k3 h
    refine TriE.block ?_
    refine TriE.seq ?_
    refine TriE.run [(0, eS 2 eWindow a0), (3, .own 0 0 ((List.replicate ((IntKind.u64.wrap ((IntKind.u64.wrap ((([(-1)] : List Int).length : Nat) : Int)) * (IntKind.u64.wrap ((a0.length : Nat) : Int)))).toNat) (0 : Int)).length)), (12, vi ((v8 : Nat) : Int)), (4, vi ((v8 : Nat) : Int))] [some (.row 1 (List.map vi v9))] (by kernel_rfl) ?_
    refine TriE.seq ?_
    refine TriE.run [(0, eS 2 eWindow a0), (3, .own 0 0 ((List.replicate ((IntKind.u64.wrap ((IntKind.u64.wrap ((([(-1)] : List Int).length : Nat) : Int)) * (IntKind.u64.wrap ((a0.length : Nat) : Int)))).toNat) (0 : Int)).length)), (12, vi ((v8 : Nat) : Int)), (4, vi ((v8 : Nat) : Int)), (5, vi (-1))] [some (.row 1 (List.map vi v9))] (by kernel_rfl) ?_
    refine TriE.seqK h (fun (v14 : Int) => St.mk [(0, eS 2 eWindow a0), (3, .own 0 0 ((List.replicate ((IntKind.u64.wrap ((IntKind.u64.wrap ((([(-1)] : List Int).length : Nat) : Int)) * (IntKind.u64.wrap ((a0.length : Nat) : Int)))).toNat) (0 : Int)).length)), (12, vi ((v8 : Nat) : Int)), (4, vi ((v8 : Nat) : Int)), (5, vi v14)] [some (.row 1 (List.map vi v9))]) ?_ ?_
    · rintro v14 h
      show TriE _ _ _ _ _ (St.mk [(0, eS 2 eWindow a0), (3, .own 0 0 ((List.replicate ((IntKind.u64.wrap ((IntKind.u64.wrap ((([(-1)] : List Int).length : Nat) : Int)) * (IntKind.u64.wrap ((a0.length : Nat) : Int)))).toNat) (0 : Int)).length)), (12, vi ((v8 : Nat) : Int)), (4, vi ((v8 : Nat) : Int)), (5, vi v14)] [some (.row 1 (List.map vi v9))]) _
      refine TriE.seq ?_
      refine TriE.run [(0, eS 2 eWindow a0), (3, .own 0 0 ((List.replicate ((IntKind.u64.wrap ((IntKind.u64.wrap ((([(-1)] : List Int).length : Nat) : Int)) * (IntKind.u64.wrap ((a0.length : Nat) : Int)))).toNat) (0 : Int)).length)), (12, vi ((v8 : Nat) : Int)), (4, vi ((v8 : Nat) : Int)), (5, vi v14), (56, vb (decide ((0 : Int) ≤ v14)))] [some (.row 1 (List.map vi v9))] (by kernel_rfl) ?_
      refine TriE.cond (b := decide ((0 : Int) ≤ v14)) rfl (fun c9 => ?_) (fun c9 => ?_)
      · have h := cond_t h c9
        refine TriE.regJ ?_
        refine RegJ.run 3 [(0, eS 2 eWindow a0), (3, .own 0 0 ((List.replicate ((IntKind.u64.wrap ((IntKind.u64.wrap ((([(-1)] : List Int).length : Nat) : Int)) * (IntKind.u64.wrap ((a0.length : Nat) : Int)))).toNat) (0 : Int)).length)), (12, vi ((v8 : Nat) : Int)), (57, .own 0 0 ((List.replicate ((IntKind.u64.wrap ((IntKind.u64.wrap ((([(-1)] : List Int).length : Nat) : Int)) * (IntKind.u64.wrap ((a0.length : Nat) : Int)))).toNat) (0 : Int)).length)), (58, vi v14), (59, vi ((v8 : Nat) : Int))] [some (.row 1 (List.map vi v9))] (by kernel_rfl) ?_
        refine cK h fun c10 h => ?_
        refine jv (.ptr 0 v14.toNat 0) (cz (I0 60 (.iaddr 1 (.t 57) (.t 58))) (by kernel_rfl)) (ok_iaddr_o0 (j := v14.toNat) rfl rfl rfl (inB_to c10) (inB_lt c10)) rfl ?_
        refine cK h fun c11 h => ?_
        refine je (.undef) [some (.row 1 (List.map vi (List.set v9 v14.toNat ((v8 : Nat) : Int))))] (cz (IN (.store 1 (.t 60) (.t 59))) (by kernel_rfl)) (ok_store_m (l := v9) (e := vi) (x' := ((v8 : Nat) : Int)) (u := vi ((v8 : Nat) : Int)) rfl rfl rfl c11 rfl rfl) rfl rfl rfl ?_
        refine jd [(0, eS 2 eWindow a0), (3, .own 0 0 ((List.replicate ((IntKind.u64.wrap ((IntKind.u64.wrap ((([(-1)] : List Int).length : Nat) : Int)) * (IntKind.u64.wrap ((a0.length : Nat) : Int)))).toNat) (0 : Int)).length)), (12, vi ((v8 : Nat) : Int))] (by kernel_rfl) rfl ?_
        exact Vs.intro Sees.refl ⟨(List.set v9 v14.toNat ((v8 : Nat) : Int)), rfl, h⟩
      have h := cond_f h c9
      refine TriE.skip ?_
      exact Vs.intro (sl (by kernel_rfl)) ⟨v9, rfl, h⟩
    intro k2 h
    refine TriE.seq ?_
    refine TriE.regJ ?_
    refine RegJ.run 1 [(0, eS 2 eWindow a0), (3, .own 0 0 ((List.replicate ((IntKind.u64.wrap ((IntKind.u64.wrap ((([(-1)] : List Int).length : Nat) : Int)) * (IntKind.u64.wrap ((a0.length : Nat) : Int)))).toNat) (0 : Int)).length)), (12, vi ((v8 : Nat) : Int)), (4, vi ((v8 : Nat) : Int)), (5, vi (-1)), (15, eS 2 eWindow a0)] [some (.row 1 (List.map vi v9))] (by kernel_rfl) ?_
    refine jv (vi ((a0.length : Nat) : Int)) (cz (I0 16 (.len 0 (.t 15))) (by kernel_rfl)) (ok_len_m rfl) rfl ?_
    refine jrd 1 [(0, eS 2 eWindow a0), (3, .own 0 0 ((List.replicate ((IntKind.u64.wrap ((IntKind.u64.wrap ((([(-1)] : List Int).length : Nat) : Int)) * (IntKind.u64.wrap ((a0.length : Nat) : Int)))).toNat) (0 : Int)).length)), (12, vi ((v8 : Nat) : Int)), (4, vi ((v8 : Nat) : Int)), (5, vi (-1)), (15, eS 2 eWindow a0), (16, vi ((a0.length : Nat) : Int)), (17, vi 0)] [some (.row 1 (List.map vi v9))] (by kernel_rfl) rfl ?_
    refine TriE.block ?_
    refine TriE.sees (S' := ⟨[(0, eS 2 eWindow a0), (3, .own 0 0 ((List.replicate ((IntKind.u64.wrap ((IntKind.u64.wrap ((([(-1)] : List Int).length : Nat) : Int)) * (IntKind.u64.wrap ((a0.length : Nat) : Int)))).toNat) (0 : Int)).length)), (12, vi ((v8 : Nat) : Int)), (4, vi ((v8 : Nat) : Int)), (5, vi (-1)), (15, eS 2 eWindow a0), (16, vi ((a0.length : Nat) : Int)), (17, vi ((0 : Nat) : Int))], [some (.row 1 (List.map vi v9))]⟩) (sl (by kernel_rfl)) ?_
    refine TriE.loopN h (fun (t : Int × Nat) => match t with | (v11, v12) => St.mk [(0, eS 2 eWindow a0), (3, .own 0 0 ((List.replicate ((IntKind.u64.wrap ((IntKind.u64.wrap ((([(-1)] : List Int).length : Nat) : Int)) * (IntKind.u64.wrap ((a0.length : Nat) : Int)))).toNat) (0 : Int)).length)), (12, vi ((v8 : Nat) : Int)), (4, vi ((v8 : Nat) : Int)), (5, vi v11), (15, eS 2 eWindow a0), (16, vi ((a0.length : Nat) : Int)), (17, vi ((v12 : Nat) : Int))] [some (.row 1 (List.map vi v9))]) rfl ?_
    clear h
    rintro back ⟨v11, v12⟩ h
    dsimp only [diary_schedule_L1] at h
    show TriE _ _ _ _ _ (St.mk [(0, eS 2 eWindow a0), (3, .own 0 0 ((List.replicate ((IntKind.u64.wrap ((IntKind.u64.wrap ((([(-1)] : List Int).length : Nat) : Int)) * (IntKind.u64.wrap ((a0.length : Nat) : Int)))).toNat) (0 : Int)).length)), (12, vi ((v8 : Nat) : Int)), (4, vi ((v8 : Nat) : Int)), (5, vi v11), (15, eS 2 eWindow a0), (16, vi ((a0.length : Nat) : Int)), (17, vi ((v12 : Nat) : Int))] [some (.row 1 (List.map vi v9))]) _
    refine TriE.seq ?_
    refine TriE.regJ ?_
    refine jv (vb (decide (v12 < a0.length))) (cz (I0 18 (.bin .lss false (.t 17) (.t 16))) (by kernel_rfl)) (n_lss (i := v12) (j := a0.length) rfl rfl) rfl ?_
    refine jd [(0, eS 2 eWindow a0), (3, .own 0 0 ((List.replicate ((IntKind.u64.wrap ((IntKind.u64.wrap ((([(-1)] : List Int).length : Nat) : Int)) * (IntKind.u64.wrap ((a0.length : Nat) : Int)))).toNat) (0 : Int)).length)), (12, vi ((v8 : Nat) : Int)), (4, vi ((v8 : Nat) : Int)), (5, vi v11), (15, eS 2 eWindow a0), (16, vi ((a0.length : Nat) : Int)), (17, vi ((v12 : Nat) : Int)), (18, vb (decide (v12 < a0.length)))] (by kernel_rfl) rfl ?_
    refine TriE.seq ?_
    refine TriE.cond (b := decide (v12 < a0.length)) rfl (fun c2 => ?_) (fun c2 => ?_)
    · have h := cond_t h c2
      refine TriE.skip ?_
      refine TriE.seqK h (fun (v13 : Int) => St.mk [(0, eS 2 eWindow a0), (3, .own 0 0 ((List.replicate ((IntKind.u64.wrap ((IntKind.u64.wrap ((([(-1)] : List Int).length : Nat) : Int)) * (IntKind.u64.wrap ((a0.length : Nat) : Int)))).toNat) (0 : Int)).length)), (12, vi ((v8 : Nat) : Int)), (4, vi ((v8 : Nat) : Int)), (15, eS 2 eWindow a0), (16, vi ((a0.length : Nat) : Int)), (17, vi ((v12 : Nat) : Int)), (5, vi v13)] [some (.row 1 (List.map vi v9))]) ?_ ?_
      · rintro v13 h
        show TriE _ _ _ _ _ (St.mk [(0, eS 2 eWindow a0), (3, .own 0 0 ((List.replicate ((IntKind.u64.wrap ((IntKind.u64.wrap ((([(-1)] : List Int).length : Nat) : Int)) * (IntKind.u64.wrap ((a0.length : Nat) : Int)))).toNat) (0 : Int)).length)), (12, vi ((v8 : Nat) : Int)), (4, vi ((v8 : Nat) : Int)), (15, eS 2 eWindow a0), (16, vi ((a0.length : Nat) : Int)), (17, vi ((v12 : Nat) : Int)), (5, vi v13)] [some (.row 1 (List.map vi v9))]) _
        refine TriE.regJ ?_
        refine cK h fun c8 h => ?_
        refine jv (vi ((v12 + 1 : Nat) : Int)) (cz (I0 54 (.bin .add false (.t 17) (.c (.p (.int .i64 1))))) (by kernel_rfl)) (r_addn (i := v12) (j := 1) rfl rfl c8) rfl ?_
        refine jrd 1 [(0, eS 2 eWindow a0), (3, .own 0 0 ((List.replicate ((IntKind.u64.wrap ((IntKind.u64.wrap ((([(-1)] : List Int).length : Nat) : Int)) * (IntKind.u64.wrap ((a0.length : Nat) : Int)))).toNat) (0 : Int)).length)), (12, vi ((v8 : Nat) : Int)), (4, vi ((v8 : Nat) : Int)), (15, eS 2 eWindow a0), (16, vi ((a0.length : Nat) : Int)), (5, vi v13), (17, vi ((v12 + 1 : Nat) : Int))] [some (.row 1 (List.map vi v9))] (by kernel_rfl) rfl ?_
        exact Vs.intro (sl (by kernel_rfl)) ⟨(v13, v12 + 1), rfl, h⟩
      intro k1 h
      refine TriE.block ?_
      refine TriE.seq ?_
      refine TriE.regJ ?_
      refine RegJ.run 1 [(0, eS 2 eWindow a0), (3, .own 0 0 ((List.replicate ((IntKind.u64.wrap ((IntKind.u64.wrap ((([(-1)] : List Int).length : Nat) : Int)) * (IntKind.u64.wrap ((a0.length : Nat) : Int)))).toNat) (0 : Int)).length)), (12, vi ((v8 : Nat) : Int)), (4, vi ((v8 : Nat) : Int)), (5, vi v11), (15, eS 2 eWindow a0), (16, vi ((a0.length : Nat) : Int)), (17, vi ((v12 : Nat) : Int)), (19, vi ((v12 : Nat) : Int))] [some (.row 1 (List.map vi v9))] (by kernel_rfl) ?_
      refine jv (.fptr 2 (List.map eWindow a0) v12 0) (cz (I0 20 (.iaddr 2 (.t 15) (.t 17))) (by kernel_rfl)) (ok_iaddr_m (j := v12) rfl rfl rfl c2) rfl ?_
      refine jv (.agg [vi ((ix a0 v12).From), vi ((ix a0 v12).To)]) (cz (I0 21 (.load true 2 (.t 20))) (by kernel_rfl)) (ok_load_fm (v := .agg [vi ((ix a0 v12).From), vi ((ix a0 v12).To)]) rfl c2 rfl) rfl ?_
      refine jrd 3 [(0, eS 2 eWindow a0), (3, .own 0 0 ((List.replicate ((IntKind.u64.wrap ((IntKind.u64.wrap ((([(-1)] : List Int).length : Nat) : Int)) * (IntKind.u64.wrap ((a0.length : Nat) : Int)))).toNat) (0 : Int)).length)), (12, vi ((v8 : Nat) : Int)), (4, vi ((v8 : Nat) : Int)), (5, vi v11), (15, eS 2 eWindow a0), (16, vi ((a0.length : Nat) : Int)), (17, vi ((v12 : Nat) : Int)), (7, .ptr 1 0 0), (6, vi ((v12 : Nat) : Int))] [some (.row 1 (List.map vi v9)), some (.row 2 [.agg [vi ((ix a0 v12).From), vi ((ix a0 v12).To)]])] (by kernel_rfl) rfl ?_
      refine TriE.seq ?_
      refine TriE.sees (Sees.less (fr' := [(0, eS 2 eWindow a0), (3, .own 0 0 ((List.replicate ((IntKind.u64.wrap ((IntKind.u64.wrap ((([(-1)] : List Int).length : Nat) : Int)) * (IntKind.u64.wrap ((a0.length : Nat) : Int)))).toNat) (0 : Int)).length)), (12, vi ((v8 : Nat) : Int)), (4, vi ((v8 : Nat) : Int)), (5, vi v11), (15, eS 2 eWindow a0), (16, vi ((a0.length : Nat) : Int)), (17, vi ((v12 : Nat) : Int)), (7, .ptr 1 0 0), (6, vi ((v12 : Nat) : Int))]) (.cons rfl (.cons rfl (.cons rfl (.cons rfl (.cons rfl (.cons rfl (.cons rfl (.cons rfl (.cons rfl (.cons rfl .nil))))))))))) ?_
      refine TriE.draw (by kernel_rfl) ?_
      refine RegD.run 2 [(23, vi ((v12 : Nat) : Int)), (22, .own 0 0 ((List.replicate ((IntKind.u64.wrap ((IntKind.u64.wrap ((([(-1)] : List Int).length : Nat) : Int)) * (IntKind.u64.wrap ((a0.length : Nat) : Int)))).toNat) (0 : Int)).length)), (0, eS 2 eWindow a0), (3, .own 0 0 ((List.replicate ((IntKind.u64.wrap ((IntKind.u64.wrap ((([(-1)] : List Int).length : Nat) : Int)) * (IntKind.u64.wrap ((a0.length : Nat) : Int)))).toNat) (0 : Int)).length)), (12, vi ((v8 : Nat) : Int)), (4, vi ((v8 : Nat) : Int)), (5, vi v11), (15, eS 2 eWindow a0), (16, vi ((a0.length : Nat) : Int)), (17, vi ((v12 : Nat) : Int)), (7, .ptr 1 0 0), (6, vi ((v12 : Nat) : Int))] [some (.row 1 (List.map vi v9)), some (.row 2 [.agg [vi ((ix a0 v12).From), vi ((ix a0 v12).To)]]), none, none] (by kernel_rfl) ?_
      refine cK h fun c3 h => ?_
      refine dv (.ptr 0 v12 0) (cz (I0 24 (.iaddr 1 (.t 22) (.t 23))) (by kernel_rfl)) (ok_iaddr_o0 (j := v12) rfl rfl rfl rfl c3) rfl ?_
      refine cK h fun c4 h => ?_
      refine dv (vi (ix v9 v12)) (cz (I0 25 (.load false 1 (.t 24))) (by kernel_rfl)) (ok_load_pm (l := v9) (e := vi) (v := vi (ix v9 v12)) rfl rfl c4 rfl) rfl ?_
      refine RegD.run 2 [(27, vb (decide ((ix v9 v12) < (0 : Int)))), (26, vb (decide ((ix v9 v12) < (0 : Int)))), (25, vi (ix v9 v12)), (24, .ptr 0 v12 0), (23, vi ((v12 : Nat) : Int)), (22, .own 0 0 ((List.replicate ((IntKind.u64.wrap ((IntKind.u64.wrap ((([(-1)] : List Int).length : Nat) : Int)) * (IntKind.u64.wrap ((a0.length : Nat) : Int)))).toNat) (0 : Int)).length)), (0, eS 2 eWindow a0), (3, .own 0 0 ((List.replicate ((IntKind.u64.wrap ((IntKind.u64.wrap ((([(-1)] : List Int).length : Nat) : Int)) * (IntKind.u64.wrap ((a0.length : Nat) : Int)))).toNat) (0 : Int)).length)), (12, vi ((v8 : Nat) : Int)), (4, vi ((v8 : Nat) : Int)), (5, vi v11), (15, eS 2 eWindow a0), (16, vi ((a0.length : Nat) : Int)), (17, vi ((v12 : Nat) : Int)), (7, .ptr 1 0 0), (6, vi ((v12 : Nat) : Int))] [some (.row 1 (List.map vi v9)), some (.row 2 [.agg [vi ((ix a0 v12).From), vi ((ix a0 v12).To)]]), none, none, none, none, none, none] (by kernel_rfl) ?_
      refine RegD.op (OpD.valk (g := decide ((ix v9 v12) < (0 : Int))) (v := .ptr 1 0 0) _ _ (cz (IG 28 (.faddr 0 (.t 7)) 27 true) (by kernel_rfl)) rfl (by kernel_rfl) (fun hg => (.cons rfl .nil))) ?_
      refine RegD.op (OpD.valk (g := decide ((ix v9 v12) < (0 : Int))) (v := vi ((ix a0 v12).From)) _ _ (cz (IG 29 (.load false 1 (.t 28)) 27 true) (by kernel_rfl)) rfl (by kernel_rfl) (fun hg => (.cons hg .nil))) ?_
      refine RegD.op (OpD.valk (g := decide ((ix v9 v12) < (0 : Int))) (v := vi ((v8 : Nat) : Int)) _ _ (cz (IG 30 (.mov (.t 4)) 27 true) (by kernel_rfl)) rfl (by kernel_rfl) (fun hg => (.cons rfl .nil))) ?_
      refine RegD.op (OpD.valk (g := decide ((ix v9 v12) < (0 : Int))) (v := vb (decide (((ix a0 v12).From) ≤ ((v8 : Nat) : Int)))) _ _ (cz (IG 31 (.bin .leq false (.t 29) (.t 30)) 27 true) (by kernel_rfl)) rfl (by kernel_rfl) (fun hg => (.cons hg (.cons hg .nil)))) ?_
      refine RegD.op (OpD.and (cz (I0 32 (.pick (.t 27) (.t 31) (.c (.p (.bool false))))) (by kernel_rfl)) rfl rfl (by first | exact hokA1 | exact hokA0 | simp)) ?_
      refine RegD.run 1 [(33, vb ((decide ((ix v9 v12) < (0 : Int))) && (decide (((ix a0 v12).From) ≤ ((v8 : Nat) : Int))))), (32, vb ((decide ((ix v9 v12) < (0 : Int))) && (decide (((ix a0 v12).From) ≤ ((v8 : Nat) : Int))))), (31, .cond (decide ((ix v9 v12) < (0 : Int))) (vb (decide (((ix a0 v12).From) ≤ ((v8 : Nat) : Int))))), (30, .cond (decide ((ix v9 v12) < (0 : Int))) (vi ((v8 : Nat) : Int))), (29, .cond (decide ((ix v9 v12) < (0 : Int))) (vi ((ix a0 v12).From))), (28, .cond (decide ((ix v9 v12) < (0 : Int))) (.ptr 1 0 0)), (27, vb (decide ((ix v9 v12) < (0 : Int)))), (26, vb (decide ((ix v9 v12) < (0 : Int)))), (25, vi (ix v9 v12)), (24, .ptr 0 v12 0), (23, vi ((v12 : Nat) : Int)), (22, .own 0 0 ((List.replicate ((IntKind.u64.wrap ((IntKind.u64.wrap ((([(-1)] : List Int).length : Nat) : Int)) * (IntKind.u64.wrap ((a0.length : Nat) : Int)))).toNat) (0 : Int)).length)), (0, eS 2 eWindow a0), (3, .own 0 0 ((List.replicate ((IntKind.u64.wrap ((IntKind.u64.wrap ((([(-1)] : List Int).length : Nat) : Int)) * (IntKind.u64.wrap ((a0.length : Nat) : Int)))).toNat) (0 : Int)).length)), (12, vi ((v8 : Nat) : Int)), (4, vi ((v8 : Nat) : Int)), (5, vi v11), (15, eS 2 eWindow a0), (16, vi ((a0.length : Nat) : Int)), (17, vi ((v12 : Nat) : Int)), (7, .ptr 1 0 0), (6, vi ((v12 : Nat) : Int))] [some (.row 1 (List.map vi v9)), some (.row 2 [.agg [vi ((ix a0 v12).From), vi ((ix a0 v12).To)]]), none, none, none, none, none, none, none, none, none, none, none, none] (by kernel_rfl) ?_
      refine RegD.op (OpD.valk (g := (decide ((ix v9 v12) < (0 : Int))) && (decide (((ix a0 v12).From) ≤ ((v8 : Nat) : Int)))) (v := vi ((v8 : Nat) : Int)) _ _ (cz (IG 34 (.mov (.t 4)) 33 true) (by kernel_rfl)) rfl (by kernel_rfl) (fun hg => (.cons rfl .nil))) ?_
      refine RegD.op (OpD.valk (g := (decide ((ix v9 v12) < (0 : Int))) && (decide (((ix a0 v12).From) ≤ ((v8 : Nat) : Int)))) (v := .ptr 1 0 1) _ _ (cz (IG 35 (.faddr 1 (.t 7)) 33 true) (by kernel_rfl)) rfl (by kernel_rfl) (fun hg => (.cons rfl .nil))) ?_
      refine RegD.op (OpD.valk (g := (decide ((ix v9 v12) < (0 : Int))) && (decide (((ix a0 v12).From) ≤ ((v8 : Nat) : Int)))) (v := vi ((ix a0 v12).To)) _ _ (cz (IG 36 (.load false 1 (.t 35)) 33 true) (by kernel_rfl)) rfl (by kernel_rfl) (fun hg => (.cons hg .nil))) ?_
      refine RegD.op (OpD.valk (g := (decide ((ix v9 v12) < (0 : Int))) && (decide (((ix a0 v12).From) ≤ ((v8 : Nat) : Int)))) (v := vb (decide (((v8 : Nat) : Int) < ((ix a0 v12).To)))) _ _ (cz (IG 37 (.bin .lss false (.t 34) (.t 36)) 33 true) (by kernel_rfl)) rfl (by kernel_rfl) (fun hg => (.cons hg (.cons hg .nil)))) ?_
      refine RegD.op (OpD.and (cz (I0 38 (.pick (.t 33) (.t 37) (.c (.p (.bool false))))) (by kernel_rfl)) rfl rfl (by first | exact hokA1 | exact hokA0 | simp)) ?_
      refine RegD.run 1 [(39, vb (((decide ((ix v9 v12) < (0 : Int))) && (decide (((ix a0 v12).From) ≤ ((v8 : Nat) : Int)))) && (decide (((v8 : Nat) : Int) < ((ix a0 v12).To))))), (38, vb (((decide ((ix v9 v12) < (0 : Int))) && (decide (((ix a0 v12).From) ≤ ((v8 : Nat) : Int)))) && (decide (((v8 : Nat) : Int) < ((ix a0 v12).To))))), (37, .cond ((decide ((ix v9 v12) < (0 : Int))) && (decide (((ix a0 v12).From) ≤ ((v8 : Nat) : Int)))) (vb (decide (((v8 : Nat) : Int) < ((ix a0 v12).To))))), (36, .cond ((decide ((ix v9 v12) < (0 : Int))) && (decide (((ix a0 v12).From) ≤ ((v8 : Nat) : Int)))) (vi ((ix a0 v12).To))), (35, .cond ((decide ((ix v9 v12) < (0 : Int))) && (decide (((ix a0 v12).From) ≤ ((v8 : Nat) : Int)))) (.ptr 1 0 1)), (34, .cond ((decide ((ix v9 v12) < (0 : Int))) && (decide (((ix a0 v12).From) ≤ ((v8 : Nat) : Int)))) (vi ((v8 : Nat) : Int))), (33, vb ((decide ((ix v9 v12) < (0 : Int))) && (decide (((ix a0 v12).From) ≤ ((v8 : Nat) : Int))))), (32, vb ((decide ((ix v9 v12) < (0 : Int))) && (decide (((ix a0 v12).From) ≤ ((v8 : Nat) : Int))))), (31, .cond (decide ((ix v9 v12) < (0 : Int))) (vb (decide (((ix a0 v12).From) ≤ ((v8 : Nat) : Int))))), (30, .cond (decide ((ix v9 v12) < (0 : Int))) (vi ((v8 : Nat) : Int))), (29, .cond (decide ((ix v9 v12) < (0 : Int))) (vi ((ix a0 v12).From))), (28, .cond (decide ((ix v9 v12) < (0 : Int))) (.ptr 1 0 0)), (27, vb (decide ((ix v9 v12) < (0 : Int)))), (26, vb (decide ((ix v9 v12) < (0 : Int)))), (25, vi (ix v9 v12)), (24, .ptr 0 v12 0), (23, vi ((v12 : Nat) : Int)), (22, .own 0 0 ((List.replicate ((IntKind.u64.wrap ((IntKind.u64.wrap ((([(-1)] : List Int).length : Nat) : Int)) * (IntKind.u64.wrap ((a0.length : Nat) : Int)))).toNat) (0 : Int)).length)), (0, eS 2 eWindow a0), (3, .own 0 0 ((List.replicate ((IntKind.u64.wrap ((IntKind.u64.wrap ((([(-1)] : List Int).length : Nat) : Int)) * (IntKind.u64.wrap ((a0.length : Nat) : Int)))).toNat) (0 : Int)).length)), (12, vi ((v8 : Nat) : Int)), (4, vi ((v8 : Nat) : Int)), (5, vi v11), (15, eS 2 eWindow a0), (16, vi ((a0.length : Nat) : Int)), (17, vi ((v12 : Nat) : Int)), (7, .ptr 1 0 0), (6, vi ((v12 : Nat) : Int))] [some (.row 1 (List.map vi v9)), some (.row 2 [.agg [vi ((ix a0 v12).From), vi ((ix a0 v12).To)]]), none, none, none, none, none, none, none, none, none, none, none, none, none, none, none, none, none, none] (by kernel_rfl) ?_
      refine RegD.op (OpD.valk (g := ((decide ((ix v9 v12) < (0 : Int))) && (decide (((ix a0 v12).From) ≤ ((v8 : Nat) : Int)))) && (decide (((v8 : Nat) : Int) < ((ix a0 v12).To)))) (v := vi v11) _ _ (cz (IG 40 (.mov (.t 5)) 39 true) (by kernel_rfl)) rfl (by kernel_rfl) (fun hg => (.cons rfl .nil))) ?_
      refine RegD.op (OpD.valk (g := ((decide ((ix v9 v12) < (0 : Int))) && (decide (((ix a0 v12).From) ≤ ((v8 : Nat) : Int)))) && (decide (((v8 : Nat) : Int) < ((ix a0 v12).To)))) (v := vb (decide (v11 < (0 : Int)))) _ _ (cz (IG 41 (.bin .lss false (.t 40) (.c (.p (.int .i64 0)))) 39 true) (by kernel_rfl)) rfl (by kernel_rfl) (fun hg => (.cons hg (.cons rfl .nil)))) ?_
      refine RegD.op (OpD.valk (g := ((decide ((ix v9 v12) < (0 : Int))) && (decide (((ix a0 v12).From) ≤ ((v8 : Nat) : Int)))) && (decide (((v8 : Nat) : Int) < ((ix a0 v12).To)))) (v := vb (decide (v11 < (0 : Int)))) _ _ (cz (IG 42 (.mov (.t 41)) 39 true) (by kernel_rfl)) rfl (by kernel_rfl) (fun hg => (.cons hg .nil))) ?_
      refine RegD.op (OpD.valk (g := (((decide ((ix v9 v12) < (0 : Int))) && (decide (((ix a0 v12).From) ≤ ((v8 : Nat) : Int)))) && (decide (((v8 : Nat) : Int) < ((ix a0 v12).To)))) && !(decide (v11 < (0 : Int)))) (v := .ptr 1 0 1) _ _ (cz (IG 43 (.faddr 1 (.t 7)) 42 false) (by kernel_rfl)) rfl (by kernel_rfl) (fun hg => (.cons rfl .nil))) ?_
      refine RegD.op (OpD.valk (g := (((decide ((ix v9 v12) < (0 : Int))) && (decide (((ix a0 v12).From) ≤ ((v8 : Nat) : Int)))) && (decide (((v8 : Nat) : Int) < ((ix a0 v12).To)))) && !(decide (v11 < (0 : Int)))) (v := vi ((ix a0 v12).To)) _ _ (cz (IG 44 (.load false 1 (.t 43)) 42 false) (by kernel_rfl)) rfl (by kernel_rfl) (fun hg => (.cons hg .nil))) ?_
      refine RegD.op (OpD.valk (g := (((decide ((ix v9 v12) < (0 : Int))) && (decide (((ix a0 v12).From) ≤ ((v8 : Nat) : Int)))) && (decide (((v8 : Nat) : Int) < ((ix a0 v12).To)))) && !(decide (v11 < (0 : Int)))) (v := eS 2 eWindow a0) _ _ (cz (IG 45 (.mov (.t 0)) 42 false) (by kernel_rfl)) rfl (by kernel_rfl) (fun hg => (.cons rfl .nil))) ?_
      refine RegD.op (OpD.valk (g := (((decide ((ix v9 v12) < (0 : Int))) && (decide (((ix a0 v12).From) ≤ ((v8 : Nat) : Int)))) && (decide (((v8 : Nat) : Int) < ((ix a0 v12).To)))) && !(decide (v11 < (0 : Int)))) (v := vi v11) _ _ (cz (IG 46 (.mov (.t 5)) 42 false) (by kernel_rfl)) rfl (by kernel_rfl) (fun hg => (.cons rfl .nil))) ?_
      refine cK h fun c5 h => ?_
      refine RegD.op (OpD.valg (g := (((decide ((ix v9 v12) < (0 : Int))) && (decide (((ix a0 v12).From) ≤ ((v8 : Nat) : Int)))) && (decide (((v8 : Nat) : Int) < ((ix a0 v12).To)))) && !(decide (v11 < (0 : Int)))) (v := .fptr 2 (List.map eWindow a0) v11.toNat 0) _ _ (cz (IG 47 (.iaddr 2 (.t 45) (.t 46)) 42 false) (by kernel_rfl)) rfl (fun hg => (ok_iaddr_m (j := v11.toNat) rfl rfl (inB_to (gor c5 hg)) (inB_lt (gor c5 hg)))) (fun hg => (.cons hg (.cons hg .nil)))) ?_
      refine RegD.op (OpD.valk (g := (((decide ((ix v9 v12) < (0 : Int))) && (decide (((ix a0 v12).From) ≤ ((v8 : Nat) : Int)))) && (decide (((v8 : Nat) : Int) < ((ix a0 v12).To)))) && !(decide (v11 < (0 : Int)))) (v := .fptr 2 (List.map eWindow a0) v11.toNat 1) _ _ (cz (IG 48 (.faddr 1 (.t 47)) 42 false) (by kernel_rfl)) rfl (by kernel_rfl) (fun hg => (.cons hg .nil))) ?_
      refine cK h fun c6 h => ?_
      refine RegD.op (OpD.valg (g := (((decide ((ix v9 v12) < (0 : Int))) && (decide (((ix a0 v12).From) ≤ ((v8 : Nat) : Int)))) && (decide (((v8 : Nat) : Int) < ((ix a0 v12).To)))) && !(decide (v11 < (0 : Int)))) (v := vi ((ix a0 v11.toNat).To)) _ _ (cz (IG 49 (.load false 1 (.t 48)) 42 false) (by kernel_rfl)) rfl (fun hg => (ok_load_fm (v := vi ((ix a0 v11.toNat).To)) rfl (gor c6 hg) rfl)) (fun hg => (.cons hg .nil))) ?_
      refine RegD.op (OpD.valk (g := (((decide ((ix v9 v12) < (0 : Int))) && (decide (((ix a0 v12).From) ≤ ((v8 : Nat) : Int)))) && (decide (((v8 : Nat) : Int) < ((ix a0 v12).To)))) && !(decide (v11 < (0 : Int)))) (v := vb (decide (((ix a0 v12).To) < ((ix a0 v11.toNat).To)))) _ _ (cz (IG 50 (.bin .lss false (.t 44) (.t 49)) 42 false) (by kernel_rfl)) rfl (by kernel_rfl) (fun hg => (.cons hg (.cons hg .nil)))) ?_
      refine RegD.op (OpD.org (g := ((decide ((ix v9 v12) < (0 : Int))) && (decide (((ix a0 v12).From) ≤ ((v8 : Nat) : Int)))) && (decide (((v8 : Nat) : Int) < ((ix a0 v12).To)))) (cz (IG 51 (.pick (.t 42) (.c (.p (.bool true))) (.t 50)) 39 true) (by kernel_rfl)) rfl rfl rfl (fun hg => by first | exact hokO2 hg | exact hokO3 hg | exact hokO1 | exact hokO0 | (rw [hg]; simp) | simp_all)) ?_
      refine RegD.op (OpD.and (cz (I0 52 (.pick (.t 39) (.t 51) (.c (.p (.bool false))))) (by kernel_rfl)) rfl rfl (by first | exact hokA1 | exact hokA0 | simp)) ?_
      refine RegD.done rfl (by kernel_rfl) (S' := ⟨[(0, eS 2 eWindow a0), (3, .own 0 0 ((List.replicate ((IntKind.u64.wrap ((IntKind.u64.wrap ((([(-1)] : List Int).length : Nat) : Int)) * (IntKind.u64.wrap ((a0.length : Nat) : Int)))).toNat) (0 : Int)).length)), (12, vi ((v8 : Nat) : Int)), (4, vi ((v8 : Nat) : Int)), (5, vi v11), (15, eS 2 eWindow a0), (16, vi ((a0.length : Nat) : Int)), (17, vi ((v12 : Nat) : Int)), (6, vi ((v12 : Nat) : Int)), (52, vb ((((decide ((ix v9 v12) < (0 : Int))) && (decide (((ix a0 v12).From) ≤ ((v8 : Nat) : Int)))) && (decide (((v8 : Nat) : Int) < ((ix a0 v12).To)))) && ((decide (v11 < (0 : Int))) || (decide (((ix a0 v12).To) < ((ix a0 v11.toNat).To))))))], [some (.row 1 (List.map vi v9))]⟩) (sc [0] (by decide) (by kernel_rfl) (obRen_row vi_frz (by kernel_rfl) .nil) rfl rfl) ?_
      refine TriE.cond (b := (((decide ((ix v9 v12) < (0 : Int))) && (decide (((ix a0 v12).From) ≤ ((v8 : Nat) : Int)))) && (decide (((v8 : Nat) : Int) < ((ix a0 v12).To)))) && ((decide (v11 < (0 : Int))) || (decide (((ix a0 v12).To) < ((ix a0 v11.toNat).To))))) rfl (fun c7 => ?_) (fun c7 => ?_)
      · have h := cond_t h c7
        refine TriE.run [(0, eS 2 eWindow a0), (3, .own 0 0 ((List.replicate ((IntKind.u64.wrap ((IntKind.u64.wrap ((([(-1)] : List Int).length : Nat) : Int)) * (IntKind.u64.wrap ((a0.length : Nat) : Int)))).toNat) (0 : Int)).length)), (12, vi ((v8 : Nat) : Int)), (4, vi ((v8 : Nat) : Int)), (15, eS 2 eWindow a0), (16, vi ((a0.length : Nat) : Int)), (17, vi ((v12 : Nat) : Int)), (5, vi ((v12 : Nat) : Int))] [some (.row 1 (List.map vi v9))] (by kernel_rfl) ?_
        exact Vs.intro Sees.refl ⟨((v12 : Nat) : Int), rfl, h⟩
      have h := cond_f h c7
      refine TriE.skip ?_
      exact Vs.intro (sl (by kernel_rfl)) ⟨v11, rfl, h⟩
    have h := cond_f h c2
    refine TriE.exit ?_
    exact Vs.intro (sl (by kernel_rfl)) ⟨v11, rfl, h⟩
  have h := cond_f h c1
  refine TriE.exit ?_
  exact Vs.intro (sl (by kernel_rfl)) ⟨v9, rfl, h⟩
theorem diary_Most_ok (n : Nat) (a0 : List Window) (r : Int ⊕ (List Int)) (h : diary_Most n a0 = some r) : FnL Try.prog 36 [eS 2 eWindow a0] [] (match r with | .inl r => .tup [.emp, vi r] | .inr r => .tup [.own 0 0 ((List.replicate ((IntKind.u64.wrap ((IntKind.u64.wrap ((([(-1)] : List Int).length : Nat) : Int)) * (IntKind.u64.wrap (a0.length : Int)))).toNat) (0 : Int)).length), vi 0]) (match r with | .inl r => [] | .inr r => [some (.row 1 (List.map vi r))]) := by
 dsimp only [diary_Most] at h
 refine FnL.ofS (ts := [2, 3]) Try.call36 Try.func36 rfl rfl (Nat.le_of_ble_eq_true rfl) (by rcases r with r | r <;> exact Nat.le_of_ble_eq_true rfl) (fun j h => absurd h (Nat.not_lt_zero j)) ?_
 refine sk .a ?_
 refine q1 ?_
 refine sj ?_
 refine rk 1 (.k (.i 5 (eS 2 eWindow a0) .n)) ?_
 refine bK h fun y1 hy1 h => ?_
 refine jc 6 [5] (diary_CheckWindows_ok n a0 y1 hy1) ?_
 refine jk 1 (.d (.k (.i 4 (vi y1) .n))) ?_
 refine sk (.k2 (.i 8 (vb (y1 != (0 : Int))) .n)) ?_
 refine tc h (fun c1 h => ?_) (fun c1 h => ?_)
 ·refine sk (.i 2 .emp (.i 3 (vi y1) .n)) ?_
  refine q3 ?_
  have h := si h
  subst h
  exact DoneS.ret Sees.refl rfl rfl
 refine q2 ?_
 refine sj ?_
 refine rk 1 (.i 10 (eS 2 eWindow a0) .n) ?_
 refine bK h fun y2 hy2 h => ?_
 refine jco (.own 0 0 ((List.replicate ((IntKind.u64.wrap ((IntKind.u64.wrap ((([(-1)] : List Int).length : Nat) : Int)) * (IntKind.u64.wrap (a0.length : Int)))).toNat) (0 : Int)).length)) 11 [10] (diary_schedule_ok n a0 y2 hy2) [] rfl ObsRen.nil (.same (row_ren vi_frz _ _ _) .nil) rfl ?_
 refine jk 2 (.i 2 (.own 0 0 ((List.replicate ((IntKind.u64.wrap ((IntKind.u64.wrap ((([(-1)] : List Int).length : Nat) : Int)) * (IntKind.u64.wrap (a0.length : Int)))).toNat) (0 : Int)).length)) (.i 3 (vi 0) .n)) ?_
 refine q3 ?_
 have h := si h
 subst h
 exact DoneS.ret Sees.refl rfl rfl
theorem agraffebase_Ints_ok (n : Nat) (a0 : List Int) (a1 : List Int) (r : Bool) (h : agraffebase_Ints n a0 a1 = some r) : FnL Try.prog 41 [eS 1 vi a0, eS 1 vi a1] [] (vb r) [] := by
 dsimp only [agraffebase_Ints] at h
 refine fo [4] Try.call41 Try.func41 rfl ?_
 refine sk .a ?_
 refine q1 ?_
 refine sj ?_
 refine rk 1 (.k2 (.i 6 (eS 1 vi a0) .n)) ?_
 refine jo 7 (.len 0 6) (ok_len_m rfl) ?_
 refine rk 1 (.d (.k2 (.i 7 (vi (a0.length : Int)) (.i 8 (eS 1 vi a1) .n)))) ?_
 refine jo 9 (.len 0 8) (ok_len_m rfl) ?_
 refine jo 10 (.bin .neq false 7 9) (n_neq (i := a0.length) (j := a1.length) rfl rfl) ?_
 refine jf (.d2 (.k2 (.i 10 (vb (!decide (a0.length = a1.length))) .n))) ?_
 refine tc h (fun c1 h => ?_) (fun c1 h => ?_)
 ·refine sk (.i 4 (vb false) .n) ?_
  refine q3 ?_
  have h := si h
  subst h
  exact DoneS.ret Sees.refl rfl rfl
 refine q2 ?_
 refine TriE.seqK h (fun (_ : Unit) => St.mk [] []) ?_ ?_
 ·rintro ⟨⟩ h
  refine sk (.i 4 (vb true) .n) ?_
  refine q3 ?_
  have h := si h
  subst h
  exact DoneS.ret Sees.refl rfl rfl
 intro k1 h
 refine sk (.k2 (.i 5 (vi 0) .n)) ?_
 refine q4 ?_
 refine ts (.k2 (.i 5 (vi 0) .n)) ?_
 refine TriE.loopN h (fun (v1 : Nat) => St.mk [(0, eS 1 vi a0), (1, eS 1 vi a1), (5, vi v1)] []) rfl ?_
 clear h
 rintro back v1 h
 dsimp only [agraffebase_Ints_L1] at h
 refine q1 ?_
 refine sj ?_
 refine rk 2 (.k3 (.i 11 (vi v1) (.i 12 (eS 1 vi a0) .n))) ?_
 refine jo 13 (.len 0 12) (ok_len_m rfl) ?_
 refine jo 14 (.bin .lss false 11 13) (n_lss (i := v1) (j := a0.length) rfl rfl) ?_
 refine jf (.d2 (.k3 (.i 14 (vb (decide (v1 < a0.length))) .n))) ?_
 refine tc h (fun c2 h => ?_) (fun c2 h => ?_)
 ·refine q2 ?_
  refine q7 ?_
  refine q1 ?_
  refine ts (.k3 .n) ?_
  refine TriE.draw (by kernel_rfl) ?_
  refine dk 2 (.i 18 (vi v1) (.i 17 (eS 1 vi a0) .a)) ?_
  refine dp 19 (.iaddr 1 17 18) (ok_iaddr_m (j := v1) rfl rfl rfl c2) ?_
  refine dp 20 (.load false 1 19) (ok_load_fm (v := vi (ix a0 v1)) rfl c2 rfl) ?_
  refine dk 2 (.i 22 (vi v1) (.i 21 (eS 1 vi a1) .a)) ?_
  refine cK h fun c3 h => ?_
  refine dp 23 (.iaddr 1 21 22) (ok_iaddr_m (j := v1) rfl rfl rfl c3) ?_
  refine dp 24 (.load false 1 23) (ok_load_fm (v := vi (ix a1 v1)) rfl c3 rfl) ?_
  refine dk 1 (.i 25 (vb ((ix a0 v1) != (ix a1 v1))) .a) ?_
  refine dfi (.d4 (.d4 (.d (.k3 (.i 25 (vb ((ix a0 v1) != (ix a1 v1))) .n))))) [] ObRen.nil ?_
  refine tc h (fun c4 h => ?_) (fun c4 h => ?_)
  ·refine sk (.i 4 (vb false) .n) ?_
   refine q3 ?_
   have h := si h
   subst h
   exact DoneS.ret Sees.refl rfl rfl
  refine q2 ?_
  refine q6 ?_
  refine rk 1 (.k2 (.i 15 (vi v1) .n)) ?_
  refine cK h fun c5 h => ?_
  refine jo 16 (.bin .add false 15 (ki 1)) (r_addn (i := v1) (j := 1) rfl rfl c5) ?_
  refine jk 1 (.d (.k2 (.i 5 (vi ((v1 + 1 : Nat) : Int)) .n))) ?_
  exact Vs.intro sy ⟨(v1 + 1), rfl, h⟩
 refine q5 ?_
 exact Vs.intro sy ⟨(), rfl, h⟩
theorem agraffebase_Ints_2_ok (n : Nat) (a0 : List Int) (a1 : Nat) (a2 : Nat) (a3 : List Int) (r : Bool) (h : agraffebase_Ints_2 n a0 a1 a2 a3 = some r) : FnL Try.prog 41 [.own 0 a1 a2, eS 1 vi a3] [some (.row 1 (List.map vi a0))] (vb r) [some (.row 1 (List.map vi a0))] := by
 dsimp only [agraffebase_Ints_2] at h
 refine fob [4] Try.call41 Try.func41 rfl (.cons rfl .nil) ?_
 refine sk .a ?_
 refine q1 ?_
 refine sj ?_
 refine rk 3 (.k2 (.i 7 (vi a2) (.i 8 (eS 1 vi a3) .n))) ?_
 refine jo 9 (.len 0 8) (ok_len_m rfl) ?_
 refine jo 10 (.bin .neq false 7 9) (n_neq (i := a2) (j := a3.length) rfl rfl) ?_
 refine jf (.d2 (.k2 (.i 10 (vb (!decide (a2 = a3.length))) .n))) ?_
 refine tc h (fun c1 h => ?_) (fun c1 h => ?_)
 ·refine sk (.i 4 (vb false) .n) ?_
  refine q3 ?_
  have h := si h
  subst h
  exact DoneS.ret Sees.refl rfl rfl
 refine q2 ?_
 refine TriE.seqK h (fun (_ : Unit) => St.mk [] [some (.row 1 (List.map vi a0))]) ?_ ?_
 ·rintro ⟨⟩ h
  refine sk (.i 4 (vb true) .n) ?_
  refine q3 ?_
  have h := si h
  subst h
  exact DoneS.ret Sees.refl rfl rfl
 intro k1 h
 refine sk (.k2 (.i 5 (vi 0) .n)) ?_
 refine q4 ?_
 refine ts (.k2 (.i 5 (vi 0) .n)) ?_
 refine TriE.loopN h (fun (v1 : Nat) => St.mk [(0, .own 0 a1 a2), (1, eS 1 vi a3), (5, vi v1)] [some (.row 1 (List.map vi a0))]) rfl ?_
 clear h
 rintro back v1 h
 dsimp only [agraffebase_Ints_2_L1] at h
 refine q1 ?_
 refine sj ?_
 refine rk 3 (.k3 (.i 11 (vi v1) (.i 13 (vi a2) .n))) ?_
 refine jo 14 (.bin .lss false 11 13) (n_lss (i := v1) (j := a2) rfl rfl) ?_
 refine jf (.d (.k3 (.i 14 (vb (decide (v1 < a2))) .n))) ?_
 refine tc h (fun c2 h => ?_) (fun c2 h => ?_)
 ·refine q2 ?_
  refine q7 ?_
  refine q1 ?_
  refine ts (.k3 .n) ?_
  refine TriE.draw (by kernel_rfl) ?_
  refine dk 2 (.i 18 (vi v1) (.i 17 (.own 0 a1 a2) .a)) ?_
  refine dp 19 (.iaddr 1 17 18) (ok_iaddr_o (j := v1) rfl rfl rfl rfl c2) ?_
  refine cK h fun c3 h => ?_
  refine dp 20 (.load false 1 19) (ok_load_pm (l := a0) (e := vi) (v := vi (ix a0 (a1 + v1))) rfl rfl c3 rfl) ?_
  refine dk 2 (.i 22 (vi v1) (.i 21 (eS 1 vi a3) .a)) ?_
  refine cK h fun c4 h => ?_
  refine dp 23 (.iaddr 1 21 22) (ok_iaddr_m (j := v1) rfl rfl rfl c4) ?_
  refine dp 24 (.load false 1 23) (ok_load_fm (v := vi (ix a3 v1)) rfl c4 rfl) ?_
  refine dk 1 (.i 25 (vb ((ix a0 (a1 + v1)) != (ix a3 v1))) .a) ?_
  refine dfi (.d4 (.d4 (.d (.k3 (.i 25 (vb ((ix a0 (a1 + v1)) != (ix a3 v1))) .n))))) [0] (obRen_row vi_frz rfl .nil) ?_
  refine tc h (fun c5 h => ?_) (fun c5 h => ?_)
  ·refine sk (.i 4 (vb false) .n) ?_
   refine q3 ?_
   have h := si h
   subst h
   exact DoneS.ret Sees.refl rfl rfl
  refine q2 ?_
  refine q6 ?_
  refine rk 1 (.k2 (.i 15 (vi v1) .n)) ?_
  refine cK h fun c6 h => ?_
  refine jo 16 (.bin .add false 15 (ki 1)) (r_addn (i := v1) (j := 1) rfl rfl c6) ?_
  refine jk 1 (.d (.k2 (.i 5 (vi ((v1 + 1 : Nat) : Int)) .n))) ?_
  exact Vs.intro sy ⟨(v1 + 1), rfl, h⟩
 refine q5 ?_
 exact Vs.intro sy ⟨(), rfl, h⟩
set_option maxHeartbeats 1000000 in
theorem agraffelaw09_awake_ok (n : Nat)  (r : Bool) (h : agraffelaw09_awake n  = some r) : FnL Try.prog 13 [] [] (vb r) [] := by
 dsimp only [agraffelaw09_awake] at h
 refine fo [0] Try.call13 Try.func13 rfl ?_
 refine sk .n ?_
 refine sj ?_
 refine bK h fun y1 hy1 h => ?_
 refine jc 10 [] (agraffelaw09_Town_ok n y1 hy1) ?_
 refine bK h fun y2 hy2 h => ?_
 refine jc 11 [10, (.c (.p (.string ⟨#[115, 104, 111, 112]⟩))), (ki 100)] (diary_Distances_ok n (Diary.mk ([([115, 104, 111, 112] : Str), ([104, 97, 108, 108] : Str), ([104, 111, 109, 101] : Str)] : List Str) ([([97, 110, 110] : Str), ([98, 111, 98] : Str)] : List Str) ([(Road.mk ([115, 104, 111, 112] : Str) ([104, 97, 108, 108] : Str) 30 200), (Road.mk ([104, 97, 108, 108] : Str) ([104, 111, 109, 101] : Str) 20 100), (Road.mk ([115, 104, 111, 112] : Str) ([104, 111, 109, 101] : Str) 60 150)] : List Road) ([(Grand.mk ([103] : Str) ([115, 104, 111, 112] : Str) 150), (Grand.mk ([117] : Str) ([104, 111, 109, 101] : Str) 100)] : List Grand) 10 300) ([115, 104, 111, 112] : Str) 100 y2 hy2) ?_
 refine jk 5 (.i 1 (eS 1 vi y2.2) (.i 2 (vi y2.1) .n)) ?_
 refine sj ?_
 refine bK h fun y3 hy3 h => ?_
 refine jc 15 [] (agraffelaw09_Town_ok n y3 hy3) ?_
 refine bK h fun y4 hy4 h => ?_
 refine jc 16 [] (agraffelaw09_Evening_ok n y4 hy4) ?_
 refine bK h fun y5 hy5 h => ?_
 refine jc 17 [15, 16] (diary_Accept_ok n (Diary.mk ([([115, 104, 111, 112] : Str), ([104, 97, 108, 108] : Str), ([104, 111, 109, 101] : Str)] : List Str) ([([97, 110, 110] : Str), ([98, 111, 98] : Str)] : List Str) ([(Road.mk ([115, 104, 111, 112] : Str) ([104, 97, 108, 108] : Str) 30 200), (Road.mk ([104, 97, 108, 108] : Str) ([104, 111, 109, 101] : Str) 20 100), (Road.mk ([115, 104, 111, 112] : Str) ([104, 111, 109, 101] : Str) 60 150)] : List Road) ([(Grand.mk ([103] : Str) ([115, 104, 111, 112] : Str) 150), (Grand.mk ([117] : Str) ([104, 111, 109, 101] : Str) 100)] : List Grand) 10 300) ([(Item.mk 1 0 40 ([103] : Str) ([104, 97, 108, 108] : Str) ([] : Str) 0), (Item.mk 0 50 110 ([103] : Str) ([104, 97, 108, 108] : Str) ([97, 110, 110] : Str) 0), (Item.mk 2 200 300 ([103] : Str) ([104, 97, 108, 108] : Str) ([] : Str) 0)] : List Item) y5 hy5) ?_
 refine jk 5 (.d3 (.k2 (.i 3 (vi y5.2) (.i 4 (vi y5.1) .n)))) ?_
 refine sj ?_
 refine bK h fun y6 hy6 h => ?_
 refine jc 21 [] (agraffelaw09_Town_ok n y6 hy6) ?_
 refine bK h fun y7 hy7 h => ?_
 refine jc 22 [] (agraffelaw09_Evening_ok n y7 hy7) ?_
 refine rk 1 (.d2 (.k4 (.i 21 (.agg [eS 1 vt ([([115, 104, 111, 112] : Str), ([104, 97, 108, 108] : Str), ([104, 111, 109, 101] : Str)] : List Str), eS 1 vt ([([97, 110, 110] : Str), ([98, 111, 98] : Str)] : List Str), eS 4 eRoad ([(Road.mk ([115, 104, 111, 112] : Str) ([104, 97, 108, 108] : Str) 30 200), (Road.mk ([104, 97, 108, 108] : Str) ([104, 111, 109, 101] : Str) 20 100), (Road.mk ([115, 104, 111, 112] : Str) ([104, 111, 109, 101] : Str) 60 150)] : List Road), eS 3 eGrand ([(Grand.mk ([103] : Str) ([115, 104, 111, 112] : Str) 150), (Grand.mk ([117] : Str) ([104, 111, 109, 101] : Str) 100)] : List Grand), vi 10, vi 300]) (.i 22 (eS 7 eItem ([(Item.mk 1 0 40 ([103] : Str) ([104, 97, 108, 108] : Str) ([] : Str) 0), (Item.mk 0 50 110 ([103] : Str) ([104, 97, 108, 108] : Str) ([97, 110, 110] : Str) 0), (Item.mk 2 200 300 ([103] : Str) ([104, 97, 108, 108] : Str) ([] : Str) 0)] : List Item)) (.i 23 (.agg [vi 0, vi 120, vi 180, vt ([117] : Str), vt ([104, 111, 109, 101] : Str), vt ([97, 110, 110] : Str), vi 0]) .n))))) ?_
 refine bK h fun y8 hy8 h => ?_
 refine jc 24 [21, 22, 23] (diary_FreeFrom_ok n (Diary.mk ([([115, 104, 111, 112] : Str), ([104, 97, 108, 108] : Str), ([104, 111, 109, 101] : Str)] : List Str) ([([97, 110, 110] : Str), ([98, 111, 98] : Str)] : List Str) ([(Road.mk ([115, 104, 111, 112] : Str) ([104, 97, 108, 108] : Str) 30 200), (Road.mk ([104, 97, 108, 108] : Str) ([104, 111, 109, 101] : Str) 20 100), (Road.mk ([115, 104, 111, 112] : Str) ([104, 111, 109, 101] : Str) 60 150)] : List Road) ([(Grand.mk ([103] : Str) ([115, 104, 111, 112] : Str) 150), (Grand.mk ([117] : Str) ([104, 111, 109, 101] : Str) 100)] : List Grand) 10 300) ([(Item.mk 1 0 40 ([103] : Str) ([104, 97, 108, 108] : Str) ([] : Str) 0), (Item.mk 0 50 110 ([103] : Str) ([104, 97, 108, 108] : Str) ([97, 110, 110] : Str) 0), (Item.mk 2 200 300 ([103] : Str) ([104, 97, 108, 108] : Str) ([] : Str) 0)] : List Item) (Item.mk 0 120 180 ([117] : Str) ([104, 111, 109, 101] : Str) ([97, 110, 110] : Str) 0) y8 hy8) ?_
 refine jk 5 (.d (.k4 (.i 5 (vi y8.2) (.i 6 (vi y8.1) .n)))) ?_
 refine TriE.seqK2 h (fun (v12 : Int) => St.mk [(1, eS 1 vi y2.2), (2, vi y2.1), (3, vi y5.2), (4, vi y5.1), (5, vi y8.2), (6, vi y8.1), (7, .emp), (8, vi v12)] []) (fun (v17 : (List Int)) => St.mk [(1, eS 1 vi y2.2), (2, vi y2.1), (3, vi y5.2), (4, vi y5.1), (5, vi y8.2), (6, vi y8.1), (7, .own 0 0 ((List.replicate ((IntKind.u64.wrap ((IntKind.u64.wrap ((([(-1)] : List Int).length : Nat) : Int)) * (IntKind.u64.wrap ((([(Window.mk 0 2), (Window.mk 0 2), (Window.mk 1 3), (Window.mk 2 3)] : List Window).length : Nat) : Int)))).toNat) (0 : Int)).length)), (8, vi 0)] [some (.row 1 (List.map vi v17))]) ?_ ?_ ?_
 ·rintro v12 h
  refine TriE.seqK h (fun (v16 : Bool) => St.mk [(0, vb v16)] []) ?_ ?_
  ·rintro v16 h
   refine q3 ?_
   have h := si h
   subst h
   exact DoneS.ret Sees.refl rfl rfl
  intro k2 h
  refine q6 ?_
  refine rk 3 (.k (.d (.k4 (.k2 (.i 38 (vb (y2.1 == (0 : Int))) .n))))) ?_
  refine gj (eS 1 vi y2.2) 39 (.mov 1) 38 true rfl ?_
  rcases Bool.eq_false_or_eq_true ((y2.1 == (0 : Int))) with c1 | c1
  ·have h := cond_t h c1
   refine RegJ.op (Op1.effk (v := .own 0 0 3) (ob' := [some (.row 1 [vi 0, vi 30, vi 50])]) _ _ (cy (IG 40 (.bslice 1 (.p (.int .i64 0)) 3 [(0, (ki 0)), (1, (ki 30)), (2, (ki 50))]) 38 true)) (congrArg some c1) (by kernel_rfl) (.cons rfl (.cons rfl (.cons rfl .nil)))) ?_
   refine RegJ.sees (Sees.freeze 0 (fr' := [(1, eS 1 vi y2.2), (3, vi y5.2), (4, vi y5.1), (5, vi y8.2), (6, vi y8.1), (7, .emp), (8, vi v12), (38, vb (y2.1 == (0 : Int))), (39, .cond (y2.1 == (0 : Int)) (eS 1 vi y2.2)), (40, eS 1 vi ([0, 30, 50] : List Int))]) (ob' := [none]) rfl (frzs_cons rfl (frzs_cons rfl (frzs_cons rfl frzs_nil))) (.cons (.refl _) (.cons (.refl _) (.cons (.refl _) (.cons (.refl _) (.cons (.refl _) (.cons (.refl _) (.cons (.refl _) (.cons (.refl _) (.cons (.refl _) (.cons (.own rfl (Nat.le_of_ble_eq_true rfl)) .nil)))))))))) rfl) ?_
   refine bK h fun y13 hy13 h => ?_
   refine RegJ.op (Op1.call (y' := vb y13) (obx := []) (oby := []) (ob2 := [none]) _ _ (cy (IG 41 (.call 41 [39, 40]) 38 true)) (congrArg some c1) (agraffebase_Ints_ok n y2.2 ([0, 30, 50] : List Int) y13 hy13) [] (by kernel_rfl) (.cons rfl (.cons c1 (.cons rfl .nil))) (by kernel_rfl) (by kernel_rfl) ObsRen.nil (by kernel_rfl) ObsRen.nil (by kernel_rfl)) ?_
   refine pa 42 38 41 rfl rfl ?_
   refine rk 1 (.d3 (.k4 (.k2 (.i 43 (vb ((y2.1 == (0 : Int)) && y13)) .n)))) ?_
   refine gj (vi y5.1) 44 (.mov 4) 43 true rfl ?_
   refine gk (vb (y5.1 == (0 : Int))) 45 (.bin .eql false 44 (ki 0)) 43 true rfl (fun hg => (.cons hg (.cons rfl .nil))) ?_
   refine pa 46 43 45 rfl rfl ?_
   refine rk 1 (.d3 (.k (.d (.k4 (.i 47 (vb (((y2.1 == (0 : Int)) && y13) && (y5.1 == (0 : Int)))) .n))))) ?_
   refine gj (vi y5.2) 48 (.mov 3) 47 true rfl ?_
   refine gk (vb (y5.2 == ((-1) : Int))) 49 (.bin .eql false 48 (ki (-1))) 47 true rfl (fun hg => (.cons hg (.cons rfl .nil))) ?_
   refine pa 50 47 49 rfl rfl ?_
   refine rk 1 (.d4 (.k4 (.i 51 (vb ((((y2.1 == (0 : Int)) && y13) && (y5.1 == (0 : Int))) && (y5.2 == ((-1) : Int)))) .n))) ?_
   refine gj (vi y8.1) 52 (.mov 6) 51 true rfl ?_
   refine gk (vb (y8.1 == (0 : Int))) 53 (.bin .eql false 52 (ki 0)) 51 true rfl (fun hg => (.cons hg (.cons rfl .nil))) ?_
   refine pa 54 51 53 rfl rfl ?_
   refine rk 1 (.d3 (.k (.d (.k2 (.i 55 (vb (((((y2.1 == (0 : Int)) && y13) && (y5.1 == (0 : Int))) && (y5.2 == ((-1) : Int))) && (y8.1 == (0 : Int)))) .n))))) ?_
   refine gj (vi y8.2) 56 (.mov 5) 55 true rfl ?_
   refine gk (vb (y8.2 == (130 : Int))) 57 (.bin .eql false 56 (ki 130)) 55 true rfl (fun hg => (.cons hg (.cons rfl .nil))) ?_
   refine pa 58 55 57 rfl rfl ?_
   refine rk 1 (.d4 (.k2 (.i 59 (vb ((((((y2.1 == (0 : Int)) && y13) && (y5.1 == (0 : Int))) && (y5.2 == ((-1) : Int))) && (y8.1 == (0 : Int))) && (y8.2 == (130 : Int)))) .n))) ?_
   refine gj (vi v12) 60 (.mov 8) 59 true rfl ?_
   refine gk (vb (v12 == (0 : Int))) 61 (.bin .eql false 60 (ki 0)) 59 true rfl (fun hg => (.cons hg (.cons rfl .nil))) ?_
   refine pa 62 59 61 rfl rfl ?_
   refine rk 1 (.d3 (.k (.i 63 (vb (((((((y2.1 == (0 : Int)) && y13) && (y5.1 == (0 : Int))) && (y5.2 == ((-1) : Int))) && (y8.1 == (0 : Int))) && (y8.2 == (130 : Int))) && (v12 == (0 : Int)))) .n))) ?_
   refine gj .emp 64 (.mov 7) 63 true rfl ?_
   rcases Bool.eq_false_or_eq_true (((((((y2.1 == (0 : Int)) && y13) && (y5.1 == (0 : Int))) && (y5.2 == ((-1) : Int))) && (y8.1 == (0 : Int))) && (y8.2 == (130 : Int))) && (v12 == (0 : Int))) with c2 | c2
   ·have h := cond_t h c2
    refine RegJ.op (Op1.effk (v := .own 1 0 4) (ob' := [none, some (.row 1 [vi 0, vi 1, vi 2, vi (-1)])]) _ _ (cz (IG 65 (.bslice 1 (.p (.int .i64 0)) 4 [(0, (ki 0)), (1, (ki 1)), (2, (ki 2)), (3, (ki (-1)))]) 63 true) (by kernel_rfl)) (congrArg some c2) (by kernel_rfl) (.cons rfl (.cons rfl (.cons rfl (.cons rfl .nil))))) ?_
    refine RegJ.sees (Sees.freeze 1 (fr' := [(7, .emp), (63, vb (((((((y2.1 == (0 : Int)) && y13) && (y5.1 == (0 : Int))) && (y5.2 == ((-1) : Int))) && (y8.1 == (0 : Int))) && (y8.2 == (130 : Int))) && (v12 == (0 : Int)))), (64, .cond (((((((y2.1 == (0 : Int)) && y13) && (y5.1 == (0 : Int))) && (y5.2 == ((-1) : Int))) && (y8.1 == (0 : Int))) && (y8.2 == (130 : Int))) && (v12 == (0 : Int))) (.emp)), (65, eS 1 vi ([0, 1, 2, (-1)] : List Int))]) (ob' := [none, none]) rfl (frzs_cons rfl (frzs_cons rfl (frzs_cons rfl (frzs_cons rfl frzs_nil)))) (.cons (.refl _) (.cons (.refl _) (.cons (.refl _) (.cons (.own rfl (Nat.le_of_ble_eq_true rfl)) .nil)))) rfl) ?_
    refine bK h fun y14 hy14 h => ?_
    refine RegJ.op (Op1.call (y' := vb y14) (obx := []) (oby := []) (ob2 := [none, none]) _ _ (cy (IG 66 (.call 41 [64, 65]) 63 true)) (congrArg some c2) (FnL.co (.cons .sl (.cons .same .nil)) (agraffebase_Ints_ok n ([] : List Int) ([0, 1, 2, (-1)] : List Int) y14 hy14)) [] (by kernel_rfl) (.cons rfl (.cons c2 (.cons rfl .nil))) (by kernel_rfl) (by kernel_rfl) ObsRen.nil (by kernel_rfl) ObsRen.nil (by kernel_rfl)) ?_
    refine pa 67 63 66 rfl rfl ?_
    refine jk 1 (.i 0 (vb ((((((((y2.1 == (0 : Int)) && y13) && (y5.1 == (0 : Int))) && (y5.2 == ((-1) : Int))) && (y8.1 == (0 : Int))) && (y8.2 == (130 : Int))) && (v12 == (0 : Int))) && y14)) .n) ?_
    exact Vs.intro (sc [] (by decide) (by kernel_rfl) ObRen.nil rfl rfl) ⟨((((((((y2.1 == (0 : Int)) && y13) && (y5.1 == (0 : Int))) && (y5.2 == ((-1) : Int))) && (y8.1 == (0 : Int))) && (y8.2 == (130 : Int))) && (v12 == (0 : Int))) && y14), rfl, h⟩
   have h := cond_f h c2
   refine RegJ.op (Op1.skipc (g := ((((((y2.1 == (0 : Int)) && y13) && (y5.1 == (0 : Int))) && (y5.2 == ((-1) : Int))) && (y8.1 == (0 : Int))) && (y8.2 == (130 : Int))) && (v12 == (0 : Int))) (v := vb false) (by kernel_rfl : compAt _ _ _ _ = some ⟨(some 65), .bslice 1 (.p (.int .i64 0)) 4 [(0, (ki 0)), (1, (ki 1)), (2, (ki 2)), (3, (ki (-1)))], (some (63, true)), [(ki 0), (ki 1), (ki 2), (ki (-1))], 0⟩) rfl c2) ?_
   refine RegJ.op (Op1.skipc (g := ((((((y2.1 == (0 : Int)) && y13) && (y5.1 == (0 : Int))) && (y5.2 == ((-1) : Int))) && (y8.1 == (0 : Int))) && (y8.2 == (130 : Int))) && (v12 == (0 : Int))) (v := vb false) (by kernel_rfl : compAt _ _ _ _ = some ⟨(some 66), .call 41 [64, 65], (some (63, true)), [(.c (.fn (.func 41) [] [])), 64, 65], 2⟩) rfl c2) ?_
   refine pa 67 63 66 rfl rfl ?_
   refine jq 1 [(0, vb ((((((((y2.1 == (0 : Int)) && y13) && (y5.1 == (0 : Int))) && (y5.2 == ((-1) : Int))) && (y8.1 == (0 : Int))) && (y8.2 == (130 : Int))) && (v12 == (0 : Int))) && false))] [none] ?_
   exact Vs.intro (sc [] (by decide) (by kernel_rfl) ObRen.nil rfl rfl) ⟨((((((((y2.1 == (0 : Int)) && y13) && (y5.1 == (0 : Int))) && (y5.2 == ((-1) : Int))) && (y8.1 == (0 : Int))) && (y8.2 == (130 : Int))) && (v12 == (0 : Int))) && false), rfl, h⟩
  have h := cond_f h c1
  refine RegJ.op (Op1.skipc (g := (y2.1 == (0 : Int))) (v := vb false) (by kernel_rfl : compAt _ _ _ _ = some ⟨(some 40), .bslice 1 (.p (.int .i64 0)) 3 [(0, (ki 0)), (1, (ki 30)), (2, (ki 50))], (some (38, true)), [(ki 0), (ki 30), (ki 50)], 0⟩) rfl c1) ?_
  refine RegJ.op (Op1.skipc (g := (y2.1 == (0 : Int))) (v := vb false) (by kernel_rfl : compAt _ _ _ _ = some ⟨(some 41), .call 41 [39, 40], (some (38, true)), [(.c (.fn (.func 41) [] [])), 39, 40], 2⟩) rfl c1) ?_
  refine pa 42 38 41 rfl rfl ?_
  refine rn 1 [(3, vi y5.2), (4, vi y5.1), (5, vi y8.2), (6, vi y8.1), (7, .emp), (8, vi v12), (43, vb ((y2.1 == (0 : Int)) && false))] [] ?_
  refine gj (vi y5.1) 44 (.mov 4) 43 true rfl ?_
  refine gk (vb (y5.1 == (0 : Int))) 45 (.bin .eql false 44 (ki 0)) 43 true rfl (fun hg => (.cons hg (.cons rfl .nil))) ?_
  refine pa 46 43 45 rfl rfl ?_
  refine rk 1 (.d3 (.k (.d (.k4 (.i 47 (vb (((y2.1 == (0 : Int)) && false) && (y5.1 == (0 : Int)))) .n))))) ?_
  refine gj (vi y5.2) 48 (.mov 3) 47 true rfl ?_
  refine gk (vb (y5.2 == ((-1) : Int))) 49 (.bin .eql false 48 (ki (-1))) 47 true rfl (fun hg => (.cons hg (.cons rfl .nil))) ?_
  refine pa 50 47 49 rfl rfl ?_
  refine rk 1 (.d4 (.k4 (.i 51 (vb ((((y2.1 == (0 : Int)) && false) && (y5.1 == (0 : Int))) && (y5.2 == ((-1) : Int)))) .n))) ?_
  refine gj (vi y8.1) 52 (.mov 6) 51 true rfl ?_
  refine gk (vb (y8.1 == (0 : Int))) 53 (.bin .eql false 52 (ki 0)) 51 true rfl (fun hg => (.cons hg (.cons rfl .nil))) ?_
  refine pa 54 51 53 rfl rfl ?_
  refine rk 1 (.d3 (.k (.d (.k2 (.i 55 (vb (((((y2.1 == (0 : Int)) && false) && (y5.1 == (0 : Int))) && (y5.2 == ((-1) : Int))) && (y8.1 == (0 : Int)))) .n))))) ?_
  refine gj (vi y8.2) 56 (.mov 5) 55 true rfl ?_
  refine gk (vb (y8.2 == (130 : Int))) 57 (.bin .eql false 56 (ki 130)) 55 true rfl (fun hg => (.cons hg (.cons rfl .nil))) ?_
  refine pa 58 55 57 rfl rfl ?_
  refine rk 1 (.d4 (.k2 (.i 59 (vb ((((((y2.1 == (0 : Int)) && false) && (y5.1 == (0 : Int))) && (y5.2 == ((-1) : Int))) && (y8.1 == (0 : Int))) && (y8.2 == (130 : Int)))) .n))) ?_
  refine gj (vi v12) 60 (.mov 8) 59 true rfl ?_
  refine gk (vb (v12 == (0 : Int))) 61 (.bin .eql false 60 (ki 0)) 59 true rfl (fun hg => (.cons hg (.cons rfl .nil))) ?_
  refine pa 62 59 61 rfl rfl ?_
  refine rk 1 (.d3 (.k (.i 63 (vb (((((((y2.1 == (0 : Int)) && false) && (y5.1 == (0 : Int))) && (y5.2 == ((-1) : Int))) && (y8.1 == (0 : Int))) && (y8.2 == (130 : Int))) && (v12 == (0 : Int)))) .n))) ?_
  refine gj .emp 64 (.mov 7) 63 true rfl ?_
  rcases Bool.eq_false_or_eq_true (((((((y2.1 == (0 : Int)) && false) && (y5.1 == (0 : Int))) && (y5.2 == ((-1) : Int))) && (y8.1 == (0 : Int))) && (y8.2 == (130 : Int))) && (v12 == (0 : Int))) with c3 | c3
  ·have h := cond_t h c3
   refine RegJ.op (Op1.effk (v := .own 0 0 4) (ob' := [some (.row 1 [vi 0, vi 1, vi 2, vi (-1)])]) _ _ (cz (IG 65 (.bslice 1 (.p (.int .i64 0)) 4 [(0, (ki 0)), (1, (ki 1)), (2, (ki 2)), (3, (ki (-1)))]) 63 true) (by kernel_rfl)) (congrArg some c3) (by kernel_rfl) (.cons rfl (.cons rfl (.cons rfl (.cons rfl .nil))))) ?_
   refine RegJ.sees (Sees.freeze 0 (fr' := [(7, .emp), (63, vb (((((((y2.1 == (0 : Int)) && false) && (y5.1 == (0 : Int))) && (y5.2 == ((-1) : Int))) && (y8.1 == (0 : Int))) && (y8.2 == (130 : Int))) && (v12 == (0 : Int)))), (64, .cond (((((((y2.1 == (0 : Int)) && false) && (y5.1 == (0 : Int))) && (y5.2 == ((-1) : Int))) && (y8.1 == (0 : Int))) && (y8.2 == (130 : Int))) && (v12 == (0 : Int))) (.emp)), (65, eS 1 vi ([0, 1, 2, (-1)] : List Int))]) (ob' := [none]) rfl (frzs_cons rfl (frzs_cons rfl (frzs_cons rfl (frzs_cons rfl frzs_nil)))) (.cons (.refl _) (.cons (.refl _) (.cons (.refl _) (.cons (.own rfl (Nat.le_of_ble_eq_true rfl)) .nil)))) rfl) ?_
   refine bK h fun y15 hy15 h => ?_
   refine RegJ.op (Op1.call (y' := vb y15) (obx := []) (oby := []) (ob2 := [none]) _ _ (cy (IG 66 (.call 41 [64, 65]) 63 true)) (congrArg some c3) (FnL.co (.cons .sl (.cons .same .nil)) (agraffebase_Ints_ok n ([] : List Int) ([0, 1, 2, (-1)] : List Int) y15 hy15)) [] (by kernel_rfl) (.cons rfl (.cons c3 (.cons rfl .nil))) (by kernel_rfl) (by kernel_rfl) ObsRen.nil (by kernel_rfl) ObsRen.nil (by kernel_rfl)) ?_
   refine pa 67 63 66 rfl rfl ?_
   refine jk 1 (.i 0 (vb ((((((((y2.1 == (0 : Int)) && false) && (y5.1 == (0 : Int))) && (y5.2 == ((-1) : Int))) && (y8.1 == (0 : Int))) && (y8.2 == (130 : Int))) && (v12 == (0 : Int))) && y15)) .n) ?_
   exact Vs.intro (sc [] (by decide) (by kernel_rfl) ObRen.nil rfl rfl) ⟨((((((((y2.1 == (0 : Int)) && false) && (y5.1 == (0 : Int))) && (y5.2 == ((-1) : Int))) && (y8.1 == (0 : Int))) && (y8.2 == (130 : Int))) && (v12 == (0 : Int))) && y15), rfl, h⟩
  have h := cond_f h c3
  refine RegJ.op (Op1.skipc (g := ((((((y2.1 == (0 : Int)) && false) && (y5.1 == (0 : Int))) && (y5.2 == ((-1) : Int))) && (y8.1 == (0 : Int))) && (y8.2 == (130 : Int))) && (v12 == (0 : Int))) (v := vb false) (by kernel_rfl : compAt _ _ _ _ = some ⟨(some 65), .bslice 1 (.p (.int .i64 0)) 4 [(0, (ki 0)), (1, (ki 1)), (2, (ki 2)), (3, (ki (-1)))], (some (63, true)), [(ki 0), (ki 1), (ki 2), (ki (-1))], 0⟩) rfl c3) ?_
  refine RegJ.op (Op1.skipc (g := ((((((y2.1 == (0 : Int)) && false) && (y5.1 == (0 : Int))) && (y5.2 == ((-1) : Int))) && (y8.1 == (0 : Int))) && (y8.2 == (130 : Int))) && (v12 == (0 : Int))) (v := vb false) (by kernel_rfl : compAt _ _ _ _ = some ⟨(some 66), .call 41 [64, 65], (some (63, true)), [(.c (.fn (.func 41) [] [])), 64, 65], 2⟩) rfl c3) ?_
  refine pa 67 63 66 rfl rfl ?_
  refine jq 1 [(0, vb ((((((((y2.1 == (0 : Int)) && false) && (y5.1 == (0 : Int))) && (y5.2 == ((-1) : Int))) && (y8.1 == (0 : Int))) && (y8.2 == (130 : Int))) && (v12 == (0 : Int))) && false))] [] ?_
  exact Vs.intro Sees.refl ⟨((((((((y2.1 == (0 : Int)) && false) && (y5.1 == (0 : Int))) && (y5.2 == ((-1) : Int))) && (y8.1 == (0 : Int))) && (y8.2 == (130 : Int))) && (v12 == (0 : Int))) && false), rfl, h⟩
 ·rintro v17 h
  refine TriE.seqK h (fun (v21 : Bool) => St.mk [(0, vb v21)] []) ?_ ?_
  ·rintro v21 h
   refine q3 ?_
   have h := si h
   subst h
   exact DoneS.ret Sees.refl rfl rfl
  intro k4 h
  refine q6 ?_
  refine rk 3 (.k (.d (.k4 (.k2 (.i 38 (vb (y2.1 == (0 : Int))) .n))))) ?_
  refine gj (eS 1 vi y2.2) 39 (.mov 1) 38 true rfl ?_
  rcases Bool.eq_false_or_eq_true ((y2.1 == (0 : Int))) with c4 | c4
  ·have h := cond_t h c4
   refine RegJ.op (Op1.effk (v := .own 1 0 3) (ob' := [some (.row 1 (List.map vi v17)), some (.row 1 [vi 0, vi 30, vi 50])]) _ _ (cy (IG 40 (.bslice 1 (.p (.int .i64 0)) 3 [(0, (ki 0)), (1, (ki 30)), (2, (ki 50))]) 38 true)) (congrArg some c4) (by kernel_rfl) (.cons rfl (.cons rfl (.cons rfl .nil)))) ?_
   refine RegJ.sees (Sees.freeze 1 (fr' := [(1, eS 1 vi y2.2), (3, vi y5.2), (4, vi y5.1), (5, vi y8.2), (6, vi y8.1), (7, .own 0 0 ((List.replicate ((IntKind.u64.wrap ((IntKind.u64.wrap ((([(-1)] : List Int).length : Nat) : Int)) * (IntKind.u64.wrap ((([(Window.mk 0 2), (Window.mk 0 2), (Window.mk 1 3), (Window.mk 2 3)] : List Window).length : Nat) : Int)))).toNat) (0 : Int)).length)), (8, vi 0), (38, vb (y2.1 == (0 : Int))), (39, .cond (y2.1 == (0 : Int)) (eS 1 vi y2.2)), (40, eS 1 vi ([0, 30, 50] : List Int))]) (ob' := [some (.row 1 (List.map vi v17)), none]) rfl (frzs_cons rfl (frzs_cons rfl (frzs_cons rfl frzs_nil))) (.cons (.refl _) (.cons (.refl _) (.cons (.refl _) (.cons (.refl _) (.cons (.refl _) (.cons (.refl _) (.cons (.refl _) (.cons (.refl _) (.cons (.refl _) (.cons (.own rfl (Nat.le_of_ble_eq_true rfl)) .nil)))))))))) rfl) ?_
   refine bK h fun y18 hy18 h => ?_
   refine RegJ.op (Op1.call (y' := vb y18) (obx := []) (oby := []) (ob2 := [some (.row 1 (List.map vi v17)), none]) _ _ (cy (IG 41 (.call 41 [39, 40]) 38 true)) (congrArg some c4) (agraffebase_Ints_ok n y2.2 ([0, 30, 50] : List Int) y18 hy18) [] (by kernel_rfl) (.cons rfl (.cons c4 (.cons rfl .nil))) (by kernel_rfl) (by kernel_rfl) ObsRen.nil (by kernel_rfl) ObsRen.nil (by kernel_rfl)) ?_
   refine pa 42 38 41 rfl rfl ?_
   refine rk 1 (.d3 (.k4 (.k2 (.i 43 (vb ((y2.1 == (0 : Int)) && y18)) .n)))) ?_
   refine gj (vi y5.1) 44 (.mov 4) 43 true rfl ?_
   refine gk (vb (y5.1 == (0 : Int))) 45 (.bin .eql false 44 (ki 0)) 43 true rfl (fun hg => (.cons hg (.cons rfl .nil))) ?_
   refine pa 46 43 45 rfl rfl ?_
   refine rk 1 (.d3 (.k (.d (.k4 (.i 47 (vb (((y2.1 == (0 : Int)) && y18) && (y5.1 == (0 : Int)))) .n))))) ?_
   refine gj (vi y5.2) 48 (.mov 3) 47 true rfl ?_
   refine gk (vb (y5.2 == ((-1) : Int))) 49 (.bin .eql false 48 (ki (-1))) 47 true rfl (fun hg => (.cons hg (.cons rfl .nil))) ?_
   refine pa 50 47 49 rfl rfl ?_
   refine rk 1 (.d4 (.k4 (.i 51 (vb ((((y2.1 == (0 : Int)) && y18) && (y5.1 == (0 : Int))) && (y5.2 == ((-1) : Int)))) .n))) ?_
   refine gj (vi y8.1) 52 (.mov 6) 51 true rfl ?_
   refine gk (vb (y8.1 == (0 : Int))) 53 (.bin .eql false 52 (ki 0)) 51 true rfl (fun hg => (.cons hg (.cons rfl .nil))) ?_
   refine pa 54 51 53 rfl rfl ?_
   refine rk 1 (.d3 (.k (.d (.k2 (.i 55 (vb (((((y2.1 == (0 : Int)) && y18) && (y5.1 == (0 : Int))) && (y5.2 == ((-1) : Int))) && (y8.1 == (0 : Int)))) .n))))) ?_
   refine gj (vi y8.2) 56 (.mov 5) 55 true rfl ?_
   refine gk (vb (y8.2 == (130 : Int))) 57 (.bin .eql false 56 (ki 130)) 55 true rfl (fun hg => (.cons hg (.cons rfl .nil))) ?_
   refine pa 58 55 57 rfl rfl ?_
   refine rk 1 (.d4 (.k2 (.i 59 (vb ((((((y2.1 == (0 : Int)) && y18) && (y5.1 == (0 : Int))) && (y5.2 == ((-1) : Int))) && (y8.1 == (0 : Int))) && (y8.2 == (130 : Int)))) .n))) ?_
   refine gj (vi 0) 60 (.mov 8) 59 true rfl ?_
   refine gk (vb true) 61 (.bin .eql false 60 (ki 0)) 59 true rfl (fun hg => (.cons hg (.cons rfl .nil))) ?_
   refine pa 62 59 61 rfl rfl ?_
   refine rk 1 (.d3 (.k (.i 63 (vb (((((((y2.1 == (0 : Int)) && y18) && (y5.1 == (0 : Int))) && (y5.2 == ((-1) : Int))) && (y8.1 == (0 : Int))) && (y8.2 == (130 : Int))) && true)) .n))) ?_
   refine gj (.own 0 0 ((List.replicate ((IntKind.u64.wrap ((IntKind.u64.wrap ((([(-1)] : List Int).length : Nat) : Int)) * (IntKind.u64.wrap ((([(Window.mk 0 2), (Window.mk 0 2), (Window.mk 1 3), (Window.mk 2 3)] : List Window).length : Nat) : Int)))).toNat) (0 : Int)).length)) 64 (.mov 7) 63 true rfl ?_
   rcases Bool.eq_false_or_eq_true (((((((y2.1 == (0 : Int)) && y18) && (y5.1 == (0 : Int))) && (y5.2 == ((-1) : Int))) && (y8.1 == (0 : Int))) && (y8.2 == (130 : Int))) && true) with c5 | c5
   ·have h := cond_t h c5
    refine RegJ.op (Op1.effk (v := .own 2 0 4) (ob' := [some (.row 1 (List.map vi v17)), none, some (.row 1 [vi 0, vi 1, vi 2, vi (-1)])]) _ _ (cz (IG 65 (.bslice 1 (.p (.int .i64 0)) 4 [(0, (ki 0)), (1, (ki 1)), (2, (ki 2)), (3, (ki (-1)))]) 63 true) (by kernel_rfl)) (congrArg some c5) (by kernel_rfl) (.cons rfl (.cons rfl (.cons rfl (.cons rfl .nil))))) ?_
    refine RegJ.sees (Sees.freeze 2 (fr' := [(7, .own 0 0 ((List.replicate ((IntKind.u64.wrap ((IntKind.u64.wrap ((([(-1)] : List Int).length : Nat) : Int)) * (IntKind.u64.wrap ((([(Window.mk 0 2), (Window.mk 0 2), (Window.mk 1 3), (Window.mk 2 3)] : List Window).length : Nat) : Int)))).toNat) (0 : Int)).length)), (63, vb (((((((y2.1 == (0 : Int)) && y18) && (y5.1 == (0 : Int))) && (y5.2 == ((-1) : Int))) && (y8.1 == (0 : Int))) && (y8.2 == (130 : Int))) && true)), (64, .cond (((((((y2.1 == (0 : Int)) && y18) && (y5.1 == (0 : Int))) && (y5.2 == ((-1) : Int))) && (y8.1 == (0 : Int))) && (y8.2 == (130 : Int))) && true) (.own 0 0 ((List.replicate ((IntKind.u64.wrap ((IntKind.u64.wrap ((([(-1)] : List Int).length : Nat) : Int)) * (IntKind.u64.wrap ((([(Window.mk 0 2), (Window.mk 0 2), (Window.mk 1 3), (Window.mk 2 3)] : List Window).length : Nat) : Int)))).toNat) (0 : Int)).length))), (65, eS 1 vi ([0, 1, 2, (-1)] : List Int))]) (ob' := [some (.row 1 (List.map vi v17)), none, none]) rfl (frzs_cons rfl (frzs_cons rfl (frzs_cons rfl (frzs_cons rfl frzs_nil)))) (.cons (.refl _) (.cons (.refl _) (.cons (.refl _) (.cons (.own rfl (Nat.le_of_ble_eq_true rfl)) .nil)))) rfl) ?_
    refine bK h fun y19 hy19 h => ?_
    refine RegJ.op (Op1.call (y' := vb y19) (obx := [some (.row 1 (List.map vi v17))]) (oby := [some (.row 1 (List.map vi v17))]) (ob2 := [some (.row 1 (List.map vi v17)), none, none]) _ _ (cy (IG 66 (.call 41 [64, 65]) 63 true)) (congrArg some c5) (agraffebase_Ints_2_ok n v17 0 ((List.replicate ((IntKind.u64.wrap ((IntKind.u64.wrap ((([(-1)] : List Int).length : Nat) : Int)) * (IntKind.u64.wrap ((([(Window.mk 0 2), (Window.mk 0 2), (Window.mk 1 3), (Window.mk 2 3)] : List Window).length : Nat) : Int)))).toNat) (0 : Int)).length) ([0, 1, 2, (-1)] : List Int) y19 hy19) [0] (by kernel_rfl) (.cons rfl (.cons c5 (.cons rfl .nil))) (by kernel_rfl) (by kernel_rfl) (.same (row_ren vi_frz _ _ _) .nil) (by kernel_rfl) (.same (row_ren vi_frz _ _ _) .nil) (by kernel_rfl)) ?_
    refine pa 67 63 66 rfl rfl ?_
    refine jk 1 (.i 0 (vb ((((((((y2.1 == (0 : Int)) && y18) && (y5.1 == (0 : Int))) && (y5.2 == ((-1) : Int))) && (y8.1 == (0 : Int))) && (y8.2 == (130 : Int))) && true) && y19)) .n) ?_
    exact Vs.intro (sc [] (by decide) (by kernel_rfl) ObRen.nil rfl rfl) ⟨((((((((y2.1 == (0 : Int)) && y18) && (y5.1 == (0 : Int))) && (y5.2 == ((-1) : Int))) && (y8.1 == (0 : Int))) && (y8.2 == (130 : Int))) && true) && y19), rfl, h⟩
   have h := cond_f h c5
   refine RegJ.op (Op1.skipc (g := ((((((y2.1 == (0 : Int)) && y18) && (y5.1 == (0 : Int))) && (y5.2 == ((-1) : Int))) && (y8.1 == (0 : Int))) && (y8.2 == (130 : Int))) && true) (v := vb false) (by kernel_rfl : compAt _ _ _ _ = some ⟨(some 65), .bslice 1 (.p (.int .i64 0)) 4 [(0, (ki 0)), (1, (ki 1)), (2, (ki 2)), (3, (ki (-1)))], (some (63, true)), [(ki 0), (ki 1), (ki 2), (ki (-1))], 0⟩) rfl c5) ?_
   refine RegJ.op (Op1.skipc (g := ((((((y2.1 == (0 : Int)) && y18) && (y5.1 == (0 : Int))) && (y5.2 == ((-1) : Int))) && (y8.1 == (0 : Int))) && (y8.2 == (130 : Int))) && true) (v := vb false) (by kernel_rfl : compAt _ _ _ _ = some ⟨(some 66), .call 41 [64, 65], (some (63, true)), [(.c (.fn (.func 41) [] [])), 64, 65], 2⟩) rfl c5) ?_
   refine pa 67 63 66 rfl rfl ?_
   refine jq 1 [(0, vb ((((((((y2.1 == (0 : Int)) && y18) && (y5.1 == (0 : Int))) && (y5.2 == ((-1) : Int))) && (y8.1 == (0 : Int))) && (y8.2 == (130 : Int))) && true) && false))] [some (.row 1 (List.map vi v17)), none] ?_
   exact Vs.intro (sc [] (by decide) (by kernel_rfl) ObRen.nil rfl rfl) ⟨((((((((y2.1 == (0 : Int)) && y18) && (y5.1 == (0 : Int))) && (y5.2 == ((-1) : Int))) && (y8.1 == (0 : Int))) && (y8.2 == (130 : Int))) && true) && false), rfl, h⟩
  have h := cond_f h c4
  refine RegJ.op (Op1.skipc (g := (y2.1 == (0 : Int))) (v := vb false) (by kernel_rfl : compAt _ _ _ _ = some ⟨(some 40), .bslice 1 (.p (.int .i64 0)) 3 [(0, (ki 0)), (1, (ki 30)), (2, (ki 50))], (some (38, true)), [(ki 0), (ki 30), (ki 50)], 0⟩) rfl c4) ?_
  refine RegJ.op (Op1.skipc (g := (y2.1 == (0 : Int))) (v := vb false) (by kernel_rfl : compAt _ _ _ _ = some ⟨(some 41), .call 41 [39, 40], (some (38, true)), [(.c (.fn (.func 41) [] [])), 39, 40], 2⟩) rfl c4) ?_
  refine pa 42 38 41 rfl rfl ?_
  refine rn 1 [(3, vi y5.2), (4, vi y5.1), (5, vi y8.2), (6, vi y8.1), (7, .own 0 0 ((List.replicate ((IntKind.u64.wrap ((IntKind.u64.wrap ((([(-1)] : List Int).length : Nat) : Int)) * (IntKind.u64.wrap ((([(Window.mk 0 2), (Window.mk 0 2), (Window.mk 1 3), (Window.mk 2 3)] : List Window).length : Nat) : Int)))).toNat) (0 : Int)).length)), (8, vi 0), (43, vb ((y2.1 == (0 : Int)) && false))] [some (.row 1 (List.map vi v17))] ?_
  refine gj (vi y5.1) 44 (.mov 4) 43 true rfl ?_
  refine gk (vb (y5.1 == (0 : Int))) 45 (.bin .eql false 44 (ki 0)) 43 true rfl (fun hg => (.cons hg (.cons rfl .nil))) ?_
  refine pa 46 43 45 rfl rfl ?_
  refine rk 1 (.d3 (.k (.d (.k4 (.i 47 (vb (((y2.1 == (0 : Int)) && false) && (y5.1 == (0 : Int)))) .n))))) ?_
  refine gj (vi y5.2) 48 (.mov 3) 47 true rfl ?_
  refine gk (vb (y5.2 == ((-1) : Int))) 49 (.bin .eql false 48 (ki (-1))) 47 true rfl (fun hg => (.cons hg (.cons rfl .nil))) ?_
  refine pa 50 47 49 rfl rfl ?_
  refine rk 1 (.d4 (.k4 (.i 51 (vb ((((y2.1 == (0 : Int)) && false) && (y5.1 == (0 : Int))) && (y5.2 == ((-1) : Int)))) .n))) ?_
  refine gj (vi y8.1) 52 (.mov 6) 51 true rfl ?_
  refine gk (vb (y8.1 == (0 : Int))) 53 (.bin .eql false 52 (ki 0)) 51 true rfl (fun hg => (.cons hg (.cons rfl .nil))) ?_
  refine pa 54 51 53 rfl rfl ?_
  refine rk 1 (.d3 (.k (.d (.k2 (.i 55 (vb (((((y2.1 == (0 : Int)) && false) && (y5.1 == (0 : Int))) && (y5.2 == ((-1) : Int))) && (y8.1 == (0 : Int)))) .n))))) ?_
  refine gj (vi y8.2) 56 (.mov 5) 55 true rfl ?_
  refine gk (vb (y8.2 == (130 : Int))) 57 (.bin .eql false 56 (ki 130)) 55 true rfl (fun hg => (.cons hg (.cons rfl .nil))) ?_
  refine pa 58 55 57 rfl rfl ?_
  refine rk 1 (.d4 (.k2 (.i 59 (vb ((((((y2.1 == (0 : Int)) && false) && (y5.1 == (0 : Int))) && (y5.2 == ((-1) : Int))) && (y8.1 == (0 : Int))) && (y8.2 == (130 : Int)))) .n))) ?_
  refine gj (vi 0) 60 (.mov 8) 59 true rfl ?_
  refine gk (vb true) 61 (.bin .eql false 60 (ki 0)) 59 true rfl (fun hg => (.cons hg (.cons rfl .nil))) ?_
  refine pa 62 59 61 rfl rfl ?_
  refine rk 1 (.d3 (.k (.i 63 (vb (((((((y2.1 == (0 : Int)) && false) && (y5.1 == (0 : Int))) && (y5.2 == ((-1) : Int))) && (y8.1 == (0 : Int))) && (y8.2 == (130 : Int))) && true)) .n))) ?_
  refine gj (.own 0 0 ((List.replicate ((IntKind.u64.wrap ((IntKind.u64.wrap ((([(-1)] : List Int).length : Nat) : Int)) * (IntKind.u64.wrap ((([(Window.mk 0 2), (Window.mk 0 2), (Window.mk 1 3), (Window.mk 2 3)] : List Window).length : Nat) : Int)))).toNat) (0 : Int)).length)) 64 (.mov 7) 63 true rfl ?_
  rcases Bool.eq_false_or_eq_true (((((((y2.1 == (0 : Int)) && false) && (y5.1 == (0 : Int))) && (y5.2 == ((-1) : Int))) && (y8.1 == (0 : Int))) && (y8.2 == (130 : Int))) && true) with c6 | c6
  ·have h := cond_t h c6
   refine RegJ.op (Op1.effk (v := .own 1 0 4) (ob' := [some (.row 1 (List.map vi v17)), some (.row 1 [vi 0, vi 1, vi 2, vi (-1)])]) _ _ (cz (IG 65 (.bslice 1 (.p (.int .i64 0)) 4 [(0, (ki 0)), (1, (ki 1)), (2, (ki 2)), (3, (ki (-1)))]) 63 true) (by kernel_rfl)) (congrArg some c6) (by kernel_rfl) (.cons rfl (.cons rfl (.cons rfl (.cons rfl .nil))))) ?_
   refine RegJ.sees (Sees.freeze 1 (fr' := [(7, .own 0 0 ((List.replicate ((IntKind.u64.wrap ((IntKind.u64.wrap ((([(-1)] : List Int).length : Nat) : Int)) * (IntKind.u64.wrap ((([(Window.mk 0 2), (Window.mk 0 2), (Window.mk 1 3), (Window.mk 2 3)] : List Window).length : Nat) : Int)))).toNat) (0 : Int)).length)), (63, vb (((((((y2.1 == (0 : Int)) && false) && (y5.1 == (0 : Int))) && (y5.2 == ((-1) : Int))) && (y8.1 == (0 : Int))) && (y8.2 == (130 : Int))) && true)), (64, .cond (((((((y2.1 == (0 : Int)) && false) && (y5.1 == (0 : Int))) && (y5.2 == ((-1) : Int))) && (y8.1 == (0 : Int))) && (y8.2 == (130 : Int))) && true) (.own 0 0 ((List.replicate ((IntKind.u64.wrap ((IntKind.u64.wrap ((([(-1)] : List Int).length : Nat) : Int)) * (IntKind.u64.wrap ((([(Window.mk 0 2), (Window.mk 0 2), (Window.mk 1 3), (Window.mk 2 3)] : List Window).length : Nat) : Int)))).toNat) (0 : Int)).length))), (65, eS 1 vi ([0, 1, 2, (-1)] : List Int))]) (ob' := [some (.row 1 (List.map vi v17)), none]) rfl (frzs_cons rfl (frzs_cons rfl (frzs_cons rfl (frzs_cons rfl frzs_nil)))) (.cons (.refl _) (.cons (.refl _) (.cons (.refl _) (.cons (.own rfl (Nat.le_of_ble_eq_true rfl)) .nil)))) rfl) ?_
   refine bK h fun y20 hy20 h => ?_
   refine RegJ.op (Op1.call (y' := vb y20) (obx := [some (.row 1 (List.map vi v17))]) (oby := [some (.row 1 (List.map vi v17))]) (ob2 := [some (.row 1 (List.map vi v17)), none]) _ _ (cy (IG 66 (.call 41 [64, 65]) 63 true)) (congrArg some c6) (agraffebase_Ints_2_ok n v17 0 ((List.replicate ((IntKind.u64.wrap ((IntKind.u64.wrap ((([(-1)] : List Int).length : Nat) : Int)) * (IntKind.u64.wrap ((([(Window.mk 0 2), (Window.mk 0 2), (Window.mk 1 3), (Window.mk 2 3)] : List Window).length : Nat) : Int)))).toNat) (0 : Int)).length) ([0, 1, 2, (-1)] : List Int) y20 hy20) [0] (by kernel_rfl) (.cons rfl (.cons c6 (.cons rfl .nil))) (by kernel_rfl) (by kernel_rfl) (.same (row_ren vi_frz _ _ _) .nil) (by kernel_rfl) (.same (row_ren vi_frz _ _ _) .nil) (by kernel_rfl)) ?_
   refine pa 67 63 66 rfl rfl ?_
   refine jk 1 (.i 0 (vb ((((((((y2.1 == (0 : Int)) && false) && (y5.1 == (0 : Int))) && (y5.2 == ((-1) : Int))) && (y8.1 == (0 : Int))) && (y8.2 == (130 : Int))) && true) && y20)) .n) ?_
   exact Vs.intro (sc [] (by decide) (by kernel_rfl) ObRen.nil rfl rfl) ⟨((((((((y2.1 == (0 : Int)) && false) && (y5.1 == (0 : Int))) && (y5.2 == ((-1) : Int))) && (y8.1 == (0 : Int))) && (y8.2 == (130 : Int))) && true) && y20), rfl, h⟩
  have h := cond_f h c6
  refine RegJ.op (Op1.skipc (g := ((((((y2.1 == (0 : Int)) && false) && (y5.1 == (0 : Int))) && (y5.2 == ((-1) : Int))) && (y8.1 == (0 : Int))) && (y8.2 == (130 : Int))) && true) (v := vb false) (by kernel_rfl : compAt _ _ _ _ = some ⟨(some 65), .bslice 1 (.p (.int .i64 0)) 4 [(0, (ki 0)), (1, (ki 1)), (2, (ki 2)), (3, (ki (-1)))], (some (63, true)), [(ki 0), (ki 1), (ki 2), (ki (-1))], 0⟩) rfl c6) ?_
  refine RegJ.op (Op1.skipc (g := ((((((y2.1 == (0 : Int)) && false) && (y5.1 == (0 : Int))) && (y5.2 == ((-1) : Int))) && (y8.1 == (0 : Int))) && (y8.2 == (130 : Int))) && true) (v := vb false) (by kernel_rfl : compAt _ _ _ _ = some ⟨(some 66), .call 41 [64, 65], (some (63, true)), [(.c (.fn (.func 41) [] [])), 64, 65], 2⟩) rfl c6) ?_
  refine pa 67 63 66 rfl rfl ?_
  refine jq 1 [(0, vb ((((((((y2.1 == (0 : Int)) && false) && (y5.1 == (0 : Int))) && (y5.2 == ((-1) : Int))) && (y8.1 == (0 : Int))) && (y8.2 == (130 : Int))) && true) && false))] [some (.row 1 (List.map vi v17))] ?_
  exact Vs.intro (sc [] (by decide) (by kernel_rfl) ObRen.nil rfl rfl) ⟨((((((((y2.1 == (0 : Int)) && false) && (y5.1 == (0 : Int))) && (y5.2 == ((-1) : Int))) && (y8.1 == (0 : Int))) && (y8.2 == (130 : Int))) && true) && false), rfl, h⟩
 intro k1 k3 h
 refine q6 ?_
 refine rko 5 (.k4 (.k2 (.i 32 (.own 0 0 4) .n))) [some (.row 2 [.agg [vi 0, vi 2], .agg [vi 0, vi 2], .agg [vi 1, vi 3], .agg [vi 2, vi 3]])] ?_
 refine RegJ.sees (Sees.freeze 0 (fr' := [(1, eS 1 vi y2.2), (2, vi y2.1), (3, vi y5.2), (4, vi y5.1), (5, vi y8.2), (6, vi y8.1), (32, eS 2 eWindow ([(Window.mk 0 2), (Window.mk 0 2), (Window.mk 1 3), (Window.mk 2 3)] : List Window))]) (ob' := [none]) rfl (frzs_cons rfl (frzs_cons rfl (frzs_cons rfl (frzs_cons rfl frzs_nil)))) (.cons (.refl _) (.cons (.refl _) (.cons (.refl _) (.cons (.refl _) (.cons (.refl _) (.cons (.refl _) (.cons (.own rfl (Nat.le_of_ble_eq_true rfl)) .nil))))))) rfl) ?_
 refine bK h fun y9 hy9 h => ?_
 rcases y9 with y9 | y9
 ·dsimp only at h
  refine jc 33 [32] (diary_Most_ok n ([(Window.mk 0 2), (Window.mk 0 2), (Window.mk 1 3), (Window.mk 2 3)] : List Window) (Sum.inl y9) hy9) ?_
  refine jk 5 (.d (.k4 (.k2 (.i 7 .emp (.i 8 (vi y9) .n))))) ?_
  exact Vs.intro (sc [] (by decide) (by kernel_rfl) ObRen.nil rfl rfl) (.inl ⟨y9, rfl, h⟩)
 dsimp only at h
 refine jco (.tup [.own 1 0 ((List.replicate ((IntKind.u64.wrap ((IntKind.u64.wrap ((([(-1)] : List Int).length : Nat) : Int)) * (IntKind.u64.wrap ((([(Window.mk 0 2), (Window.mk 0 2), (Window.mk 1 3), (Window.mk 2 3)] : List Window).length : Nat) : Int)))).toNat) (0 : Int)).length), vi 0]) 33 [32] (diary_Most_ok n ([(Window.mk 0 2), (Window.mk 0 2), (Window.mk 1 3), (Window.mk 2 3)] : List Window) (Sum.inr y9) hy9) [] rfl ObsRen.nil (.same (row_ren vi_frz _ _ _) .nil) rfl ?_
 refine jk 5 (.d (.k4 (.k2 (.i 7 (.own 1 0 ((List.replicate ((IntKind.u64.wrap ((IntKind.u64.wrap ((([(-1)] : List Int).length : Nat) : Int)) * (IntKind.u64.wrap ((([(Window.mk 0 2), (Window.mk 0 2), (Window.mk 1 3), (Window.mk 2 3)] : List Window).length : Nat) : Int)))).toNat) (0 : Int)).length)) (.i 8 (vi 0) .n))))) ?_
 exact Vs.intro (sc [1] (by decide) (by kernel_rfl) (obRen_row vi_frz rfl .nil) rfl rfl) (.inr ⟨y9, rfl, h⟩)
theorem agraffebase_Within_ok (n : Nat) (a0 : Int) (a1 : Int) (a2 : Int) (r : Unit) (h : agraffebase_Within n a0 a1 a2 = some r) : FnL Try.prog 48 [vi a0, vi a1, vi a2] [] (vb ((decide (a1 ≤ a0)) && (decide (a0 ≤ a2)))) [] := by
 dsimp only [agraffebase_Within] at h
 refine fo [6] Try.call48 Try.func48 rfl ?_
 refine sk .a ?_
 refine sj ?_
 refine rk 4 (.k (.d (.k (.i 10 (vb (decide (a1 ≤ a0))) .n)))) ?_
 refine gj (vi a0) 11 (.mov 0) 10 true rfl ?_
 refine gj (vi a2) 12 (.mov 2) 10 true rfl ?_
 refine gk (vb (decide (a0 ≤ a2))) 13 (.bin .leq false 11 12) 10 true rfl (fun hg => (.cons hg (.cons hg .nil))) ?_
 refine pa 14 10 13 rfl rfl ?_
 refine jk 1 (.i 6 (vb ((decide (a1 ≤ a0)) && (decide (a0 ≤ a2)))) .n) ?_
 refine q3 ?_
 have h := si h
 subst h
 exact DoneS.ret Sees.refl rfl rfl
theorem agraffelaw09_windows_ok (n : Nat) (a0 : List Window) (r : Unit) (h : agraffelaw09_windows n a0 = some r) : FnL Try.prog 35 [eS 2 eWindow a0] [] (.own 0 0 a0.length) [some (.row 2 (List.map eWindow a0))] := by
 dsimp only [agraffelaw09_windows] at h
 refine fo [2] Try.call35 Try.func35 rfl ?_
 refine sk .a ?_
 refine sj ?_
 refine rk 2 (.i 3 .emp (.i 4 (eS 2 eWindow a0) .n)) ?_
 refine cK h fun c1 h => ?_
 refine jx 5 (.app 2 16 3 4) _ (ok_app_emp (e := eWindow) (l := a0) (u := eS 2 eWindow a0) rfl rfl els_sl c1) rfl rfl ?_
 refine jk 1 (.i 2 (.own 0 0 a0.length) .n) ?_
 refine q3 ?_
 have h := si h
 subst h
 exact DoneS.ret Sees.refl rfl rfl
theorem slices_Index_int_ok (n : Nat) (a0 : List Int) (a1 : Int) (r : Int) (h : slices_Index_int n a0 a1 = some r) : FnL Try.prog 115 [eS 1 vi a0, vi a1] [] (vi r) [] := by
 dsimp only [slices_Index_int] at h
 refine fo [4] Try.call115 Try.func115 rfl ?_
 refine sk .a ?_
 refine TriE.seqK h (fun (_ : Unit) => St.mk [] []) ?_ ?_
 ·rintro ⟨⟩ h
  refine sk (.i 4 (vi (-1)) .n) ?_
  refine q3 ?_
  have h := si h
  subst h
  exact DoneS.ret Sees.refl rfl rfl
 intro k1 h
 refine sj ?_
 refine rk 1 (.k2 (.i 6 (eS 1 vi a0) .n)) ?_
 refine jo 7 (.len 0 6) (ok_len_m rfl) ?_
 refine jk 1 (.d (.k2 (.i 7 (vi (a0.length : Int)) (.i 8 (vi 0) .n)))) ?_
 refine q4 ?_
 refine ts (.k3 (.i 8 (vi 0) .n)) ?_
 refine TriE.loopN h (fun (v1 : Nat) => St.mk [(0, eS 1 vi a0), (1, vi a1), (7, vi (a0.length : Int)), (8, vi v1)] []) rfl ?_
 clear h
 rintro back v1 h
 dsimp only [slices_Index_int_L1] at h
 refine sj ?_
 refine jo 9 (.bin .lss false 8 7) (n_lss (i := v1) (j := a0.length) rfl rfl) ?_
 refine jf (.d (.k4 (.i 9 (vb (decide (v1 < a0.length))) .n))) ?_
 refine q1 ?_
 refine tc h (fun c1 h => ?_) (fun c1 h => ?_)
 ·refine q2 ?_
  refine q7 ?_
  refine sk (.k4 (.i 5 (vi v1) .n)) ?_
  refine sj ?_
  refine rk 3 (.k4 (.k (.i 11 (vi a1) (.i 12 (eS 1 vi a0) (.i 13 (vi v1) .n))))) ?_
  refine jo 14 (.iaddr 1 12 13) (ok_iaddr_m (j := v1) rfl rfl rfl c1) ?_
  refine jo 15 (.load false 1 14) (ok_load_fm (v := vi (ix a0 v1)) rfl c1 rfl) ?_
  refine jk 1 (.d2 (.k4 (.k (.i 16 (vb (a1 == (ix a0 v1))) .n)))) ?_
  refine tc h (fun c2 h => ?_) (fun c2 h => ?_)
  ·refine sk (.i 4 (vi v1) .n) ?_
   refine q3 ?_
   have h := si h
   subst h
   exact DoneS.ret Sees.refl rfl rfl
  refine q2 ?_
  refine q6 ?_
  refine cK h fun c3 h => ?_
  refine jo 18 (.bin .add false 8 (ki 1)) (r_addn (i := v1) (j := 1) rfl rfl c3) ?_
  refine jk 1 (.d (.k3 (.i 8 (vi ((v1 + 1 : Nat) : Int)) .n))) ?_
  exact Vs.intro sy ⟨(v1 + 1), rfl, h⟩
 refine q5 ?_
 exact Vs.intro sy ⟨(), rfl, h⟩
theorem slices_Contains_int_ok (n : Nat) (a0 : List Int) (a1 : Int) (r : Bool) (h : slices_Contains_int n a0 a1 = some r) : FnL Try.prog 89 [eS 1 vi a0, vi a1] [] (vb r) [] := by
 dsimp only [slices_Contains_int] at h
 refine fo [4] Try.call89 Try.func89 rfl ?_
 refine sk .a ?_
 refine sj ?_
 refine rk 2 (.i 5 (eS 1 vi a0) (.i 6 (vi a1) .n)) ?_
 refine bK h fun y1 hy1 h => ?_
 refine jc 7 [5, 6] (slices_Index_int_ok n a0 a1 y1 hy1) ?_
 refine jk 2 (.i 4 (vb (decide ((0 : Int) ≤ y1))) .n) ?_
 refine q3 ?_
 have h := si h
 subst h
 exact DoneS.ret Sees.refl rfl rfl
theorem slices_Index_int_2_ok (n : Nat) (a0 : List Int) (a1 : Nat) (a2 : Nat) (a3 : Int) (r : Int) (h : slices_Index_int_2 n a0 a1 a2 a3 = some r) : FnL Try.prog 115 [.own 0 a1 a2, vi a3] [some (.row 1 (List.map vi a0))] (vi r) [some (.row 1 (List.map vi a0))] := by
 dsimp only [slices_Index_int_2] at h
 refine fob [4] Try.call115 Try.func115 rfl (.cons rfl .nil) ?_
 refine sk .a ?_
 refine TriE.seqK h (fun (_ : Unit) => St.mk [] [some (.row 1 (List.map vi a0))]) ?_ ?_
 ·rintro ⟨⟩ h
  refine sk (.i 4 (vi (-1)) .n) ?_
  refine q3 ?_
  have h := si h
  subst h
  exact DoneS.ret Sees.refl rfl rfl
 intro k1 h
 refine sk (.k2 (.i 7 (vi a2) (.i 8 (vi 0) .n))) ?_
 refine q4 ?_
 refine ts (.k3 (.i 8 (vi 0) .n)) ?_
 refine TriE.loopN h (fun (v1 : Nat) => St.mk [(0, .own 0 a1 a2), (1, vi a3), (7, vi a2), (8, vi v1)] [some (.row 1 (List.map vi a0))]) rfl ?_
 clear h
 rintro back v1 h
 dsimp only [slices_Index_int_2_L1] at h
 refine sj ?_
 refine jo 9 (.bin .lss false 8 7) (n_lss (i := v1) (j := a2) rfl rfl) ?_
 refine jf (.d (.k4 (.i 9 (vb (decide (v1 < a2))) .n))) ?_
 refine q1 ?_
 refine tc h (fun c1 h => ?_) (fun c1 h => ?_)
 ·refine q2 ?_
  refine q7 ?_
  refine sk (.k4 (.i 5 (vi v1) .n)) ?_
  refine sj ?_
  refine rk 3 (.k4 (.k (.i 11 (vi a3) (.i 12 (.own 0 a1 a2) (.i 13 (vi v1) .n))))) ?_
  refine jo 14 (.iaddr 1 12 13) (ok_iaddr_o (j := v1) rfl rfl rfl rfl c1) ?_
  refine cK h fun c2 h => ?_
  refine jo 15 (.load false 1 14) (ok_load_pm (l := a0) (e := vi) (v := vi (ix a0 (a1 + v1))) rfl rfl c2 rfl) ?_
  refine jk 1 (.d2 (.k4 (.k (.i 16 (vb (a3 == (ix a0 (a1 + v1)))) .n)))) ?_
  refine tc h (fun c3 h => ?_) (fun c3 h => ?_)
  ·refine sk (.i 4 (vi v1) .n) ?_
   refine q3 ?_
   have h := si h
   subst h
   exact DoneS.ret Sees.refl rfl rfl
  refine q2 ?_
  refine q6 ?_
  refine cK h fun c4 h => ?_
  refine jo 18 (.bin .add false 8 (ki 1)) (r_addn (i := v1) (j := 1) rfl rfl c4) ?_
  refine jk 1 (.d (.k3 (.i 8 (vi ((v1 + 1 : Nat) : Int)) .n))) ?_
  exact Vs.intro sy ⟨(v1 + 1), rfl, h⟩
 refine q5 ?_
 exact Vs.intro sy ⟨(), rfl, h⟩
theorem slices_Contains_int_2_ok (n : Nat) (a0 : List Int) (a1 : Nat) (a2 : Nat) (a3 : Int) (r : Bool) (h : slices_Contains_int_2 n a0 a1 a2 a3 = some r) : FnL Try.prog 89 [.own 0 a1 a2, vi a3] [some (.row 1 (List.map vi a0))] (vb r) [some (.row 1 (List.map vi a0))] := by
 dsimp only [slices_Contains_int_2] at h
 refine fob [4] Try.call89 Try.func89 rfl (.cons rfl .nil) ?_
 refine sk .a ?_
 refine sj ?_
 refine rk 2 (.i 5 (.own 0 a1 a2) (.i 6 (vi a3) .n)) ?_
 refine bK h fun y1 hy1 h => ?_
 refine jco (vi y1) 7 [5, 6] (slices_Index_int_2_ok n a0 a1 a2 a3 y1 hy1) [0] rfl (.same (row_ren vi_frz _ _ _) .nil) (.same (row_ren vi_frz _ _ _) .nil) rfl ?_
 refine jk 2 (.i 4 (vb (decide ((0 : Int) ≤ y1))) .n) ?_
 refine q3 ?_
 have h := si h
 subst h
 exact DoneS.ret Sees.refl rfl rfl
theorem diary_Slots_ok (n : Nat) (a0 : List Window) (r : Int ⊕ (List Int)) (h : diary_Slots n a0 = some r) : FnL Try.prog 34 [eS 2 eWindow a0] [] (match r with | .inl r => .tup [.emp, vi r] | .inr r => .tup [.own 0 0 ((List.replicate ((IntKind.u64.wrap ((IntKind.u64.wrap ((([(-1)] : List Int).length : Nat) : Int)) * (IntKind.u64.wrap (a0.length : Int)))).toNat) (0 : Int)).length), vi 0]) (match r with | .inl r => [] | .inr r => [some (.row 1 (List.map vi r))]) := by
 dsimp only [diary_Slots] at h
 refine FnL.ofS (ts := [2, 3]) Try.call34 Try.func34 rfl rfl (Nat.le_of_ble_eq_true rfl) (by rcases r with r | r <;> exact Nat.le_of_ble_eq_true rfl) (fun j h => absurd h (Nat.not_lt_zero j)) ?_
 refine sk .a ?_
 refine TriE.seqK2 h (fun (v4 : Int) => St.mk [(4, .emp), (5, vi v4)] []) (fun (v6 : (List Int)) => St.mk [(4, .own 0 0 ((List.replicate ((IntKind.u64.wrap ((IntKind.u64.wrap ((([(-1)] : List Int).length : Nat) : Int)) * (IntKind.u64.wrap (a0.length : Int)))).toNat) (0 : Int)).length)), (5, vi 0)] [some (.row 1 (List.map vi v6))]) ?_ ?_ ?_
 ·rintro v4 h
  refine q1 ?_
  refine sk (.k2 (.i 12 (vb (v4 != (0 : Int))) .n)) ?_
  refine tc h (fun c1 h => ?_) (fun c1 h => ?_)
  ·refine sk (.i 2 .emp (.i 3 (vi v4) .n)) ?_
   refine q3 ?_
   have h := si h
   subst h
   exact DoneS.ret Sees.refl rfl rfl
  refine q2 ?_
  refine q1 ?_
  refine sj ?_
  refine rk 1 (.k (.i 14 .emp .n)) ?_
  refine bK h fun y5 hy5 h => ?_
  refine jc 15 [14, (ki (-1))] (FnL.co (.cons .sl (.cons .same .nil)) (slices_Contains_int_ok n ([] : List Int) (-1) y5 hy5)) ?_
  refine jf (.d (.k (.i 15 (vb y5) .n))) ?_
  refine tc h (fun c2 h => ?_) (fun c2 h => ?_)
  ·refine sk (.i 2 .emp (.i 3 (vi 16) .n)) ?_
   refine q3 ?_
   have h := si h
   subst h
   exact DoneS.ret Sees.refl rfl rfl
  refine q2 ?_
  refine sk (.i 2 .emp (.i 3 (vi 0) .n)) ?_
  refine q3 ?_
  have h := si h
  subst h
  exact DoneS.ret Sees.refl rfl rfl
 ·rintro v6 h
  refine q1 ?_
  refine sk (.k2 (.i 12 (vb false) .n)) ?_
  refine TriE.cond (b := false) rfl (fun c3 => ?_) (fun c3 => ?_)
  ·cases c3
  refine q2 ?_
  refine q1 ?_
  refine sj ?_
  refine rk 1 (.k (.i 14 (.own 0 0 ((List.replicate ((IntKind.u64.wrap ((IntKind.u64.wrap ((([(-1)] : List Int).length : Nat) : Int)) * (IntKind.u64.wrap (a0.length : Int)))).toNat) (0 : Int)).length)) .n)) ?_
  refine bK h fun y7 hy7 h => ?_
  refine jco (vb y7) 15 [14, (ki (-1))] (slices_Contains_int_2_ok n v6 0 ((List.replicate ((IntKind.u64.wrap ((IntKind.u64.wrap ((([(-1)] : List Int).length : Nat) : Int)) * (IntKind.u64.wrap (a0.length : Int)))).toNat) (0 : Int)).length) (-1) y7 hy7) [0] rfl (.same (row_ren vi_frz _ _ _) .nil) (.same (row_ren vi_frz _ _ _) .nil) rfl ?_
  refine jf (.d (.k (.i 15 (vb y7) .n))) ?_
  refine tc h (fun c4 h => ?_) (fun c4 h => ?_)
  ·refine sk (.i 2 .emp (.i 3 (vi 16) .n)) ?_
   refine q3 ?_
   have h := si h
   subst h
   exact DoneS.ret (S' := ⟨[(2, .emp), (3, vi 16)], []⟩) (sc [] (by decide) (by kernel_rfl) ObRen.nil rfl rfl) rfl rfl
  refine q2 ?_
  refine sk (.i 2 (.own 0 0 ((List.replicate ((IntKind.u64.wrap ((IntKind.u64.wrap ((([(-1)] : List Int).length : Nat) : Int)) * (IntKind.u64.wrap (a0.length : Int)))).toNat) (0 : Int)).length)) (.i 3 (vi 0) .n)) ?_
  refine q3 ?_
  have h := si h
  subst h
  exact DoneS.ret Sees.refl rfl rfl
 intro k1 k2 h
 refine q6 ?_
 refine rk 1 (.i 7 (eS 2 eWindow a0) .n) ?_
 refine bK h fun y1 hy1 h => ?_
 rcases y1 with y1 | y1
 ·dsimp only at h
  refine jc 8 [7] (diary_Most_ok n a0 (Sum.inl y1) hy1) ?_
  refine jk 5 (.i 4 .emp (.i 5 (vi y1) .n)) ?_
  exact Vs.intro Sees.refl (.inl ⟨y1, rfl, h⟩)
 dsimp only at h
 refine jco (.tup [.own 0 0 ((List.replicate ((IntKind.u64.wrap ((IntKind.u64.wrap ((([(-1)] : List Int).length : Nat) : Int)) * (IntKind.u64.wrap (a0.length : Int)))).toNat) (0 : Int)).length), vi 0]) 8 [7] (diary_Most_ok n a0 (Sum.inr y1) hy1) [] rfl ObsRen.nil (.same (row_ren vi_frz _ _ _) .nil) rfl ?_
 refine jk 5 (.i 4 (.own 0 0 ((List.replicate ((IntKind.u64.wrap ((IntKind.u64.wrap ((([(-1)] : List Int).length : Nat) : Int)) * (IntKind.u64.wrap (a0.length : Int)))).toNat) (0 : Int)).length)) (.i 5 (vi 0) .n)) ?_
 exact Vs.intro Sees.refl (.inr ⟨y1, rfl, h⟩)
theorem diary_Crowd_f1_ok (n : Nat) (a0 : Window) (a1 : Int) (r : Unit) (h : diary_Crowd_f1 n a0 a1 = some r) : FnL Try.prog 92 [.agg [vi a0.From, vi a0.To], .ptr 0 0 0] [some (.row 1 [vi a1])] (vb (a0.To == a1)) [some (.row 1 [vi a1])] := by
 dsimp only [diary_Crowd_f1] at h
 refine fob [3] Try.call92 Try.func92 rfl (.cons rfl .nil) ?_
 refine sko (.d (.k (.i 2 (.ptr 1 0 0) .n))) [some (.row 1 [vi a1]), some (.row 2 [.agg [vi a0.From, vi a0.To]])] ?_
 refine sk (.i 3 (vb (a0.To == a1)) .n) ?_
 refine q3 ?_
 have h := si h
 subst h
 exact DoneS.ret (S' := ⟨[(3, vb (a0.To == a1))], [some (.row 1 [vi a1])]⟩) (sc [0] (by decide) (by kernel_rfl) (.cons rfl .nil) rfl rfl) rfl rfl
theorem slices_IndexFunc_Window_ok (n : Nat) (a0 : List Window) (a1 : Int) (r : Int) (h : slices_IndexFunc_Window n a0 a1 = some r) : FnL Try.prog 117 [eS 2 eWindow a0, .fn (.func 92) [] [.ptr 0 0 0]] [some (.row 1 [vi a1])] (vi r) [some (.row 1 [vi a1])] := by
 dsimp only [slices_IndexFunc_Window] at h
 refine fob [4] Try.call117 Try.func117 rfl (.cons rfl .nil) ?_
 refine sk .a ?_
 refine TriE.seqK h (fun (_ : Unit) => St.mk [] [some (.row 1 [vi a1])]) ?_ ?_
 ·rintro ⟨⟩ h
  refine sk (.i 4 (vi (-1)) .n) ?_
  refine q3 ?_
  have h := si h
  subst h
  exact DoneS.ret Sees.refl rfl rfl
 intro k1 h
 refine sj ?_
 refine rk 1 (.k2 (.i 6 (eS 2 eWindow a0) .n)) ?_
 refine jo 7 (.len 0 6) (ok_len_m rfl) ?_
 refine jk 1 (.d (.k2 (.i 7 (vi (a0.length : Int)) (.i 8 (vi 0) .n)))) ?_
 refine q4 ?_
 refine ts (.k3 (.i 8 (vi 0) .n)) ?_
 refine TriE.loopN h (fun (v2 : Nat) => St.mk [(0, eS 2 eWindow a0), (1, .fn (.func 92) [] [.ptr 0 0 0]), (7, vi (a0.length : Int)), (8, vi v2)] [some (.row 1 [vi a1])]) rfl ?_
 clear h
 rintro back v2 h
 dsimp only [slices_IndexFunc_Window_L1] at h
 refine sj ?_
 refine jo 9 (.bin .lss false 8 7) (n_lss (i := v2) (j := a0.length) rfl rfl) ?_
 refine jf (.d (.k4 (.i 9 (vb (decide (v2 < a0.length))) .n))) ?_
 refine q1 ?_
 refine tc h (fun c1 h => ?_) (fun c1 h => ?_)
 ·refine q2 ?_
  refine q7 ?_
  refine sk (.k4 (.i 5 (vi v2) .n)) ?_
  refine sj ?_
  refine rk 3 (.k4 (.k (.i 11 (.fn (.func 92) [] [.ptr 0 0 0]) (.i 12 (eS 2 eWindow a0) (.i 13 (vi v2) .n))))) ?_
  refine jo 14 (.iaddr 2 12 13) (ok_iaddr_m (j := v2) rfl rfl rfl c1) ?_
  refine jo 15 (.load true 2 14) (ok_load_fm (v := .agg [vi ((ix a0 v2).From), vi ((ix a0 v2).To)]) rfl c1 rfl) ?_
  refine bK h fun y3 hy3 h => ?_
  refine jy (vb ((ix a0 v2).To == a1)) 16 11 [15] rfl (diary_Crowd_f1_ok n (ix a0 v2) a1 y3 hy3) [0] rfl (.cons rfl .nil) (.cons rfl .nil) rfl ?_
  refine jf (.d3 (.k4 (.k (.i 16 (vb ((ix a0 v2).To == a1)) .n)))) ?_
  refine tc h (fun c2 h => ?_) (fun c2 h => ?_)
  ·refine sk (.i 4 (vi v2) .n) ?_
   refine q3 ?_
   have h := si h
   subst h
   exact DoneS.ret Sees.refl rfl rfl
  refine q2 ?_
  refine q6 ?_
  refine cK h fun c3 h => ?_
  refine jo 18 (.bin .add false 8 (ki 1)) (r_addn (i := v2) (j := 1) rfl rfl c3) ?_
  refine jk 1 (.d (.k3 (.i 8 (vi ((v2 + 1 : Nat) : Int)) .n))) ?_
  exact Vs.intro sy ⟨(v2 + 1), rfl, h⟩
 refine q5 ?_
 exact Vs.intro sy ⟨(), rfl, h⟩
theorem slices_ContainsFunc_Window_ok (n : Nat) (a0 : List Window) (a1 : Int) (r : Bool) (h : slices_ContainsFunc_Window n a0 a1 = some r) : FnL Try.prog 91 [eS 2 eWindow a0, .fn (.func 92) [] [.ptr 0 0 0]] [some (.row 1 [vi a1])] (vb r) [some (.row 1 [vi a1])] := by
 dsimp only [slices_ContainsFunc_Window] at h
 refine fob [4] Try.call91 Try.func91 rfl (.cons rfl .nil) ?_
 refine sk .a ?_
 refine sj ?_
 refine rk 2 (.i 5 (eS 2 eWindow a0) (.i 6 (.fn (.func 92) [] [.ptr 0 0 0]) .n)) ?_
 refine bK h fun y1 hy1 h => ?_
 refine jco (vi y1) 7 [5, 6] (slices_IndexFunc_Window_ok n a0 a1 y1 hy1) [0] rfl (.cons rfl .nil) (.cons rfl .nil) rfl ?_
 refine jk 2 (.i 4 (vb (decide ((0 : Int) ≤ y1))) .n) ?_
 refine q3 ?_
 have h := si h
 subst h
 exact DoneS.ret Sees.refl rfl rfl
theorem diary_crowded_ok (n : Nat) (a0 : List Window) (a1 : Int) (a2 : Int) (r : Bool) (h : diary_crowded n a0 a1 a2 = some r) : FnL Try.prog 93 [eS 2 eWindow a0, vi a1, vi a2] [] (vb r) [] := by
 dsimp only [diary_crowded] at h
 refine fo [6] Try.call93 Try.func93 rfl ?_
 refine sk .a ?_
 refine sk (.k3 (.i 7 (vi 0) .n)) ?_
 refine TriE.seqK h (fun (v5 : Nat) => St.mk [(1, vi a1), (2, vi a2), (7, vi v5)] []) ?_ ?_
 ·rintro v5 h
  refine sj ?_
  refine rk 3 (.i 29 (vi v5) (.i 30 (vi a2) (.i 31 (vi a1) .n))) ?_
  refine cK h fun c5 h => ?_
  refine jo 32 (.bin .sub false 30 31) (r_sub rfl rfl c5) ?_
  refine jk 2 (.i 6 (vb (decide ((a2 - a1) < (v5 : Int)))) .n) ?_
  refine q3 ?_
  have h := si h
  subst h
  exact DoneS.ret Sees.refl rfl rfl
 intro k2 h
 refine sj ?_
 refine rk 1 (.d (.k3 (.i 10 (eS 2 eWindow a0) .n))) ?_
 refine jo 11 (.len 0 10) (ok_len_m rfl) ?_
 refine jk 1 (.d (.k4 (.i 11 (vi (a0.length : Int)) (.i 12 (vi 0) .n)))) ?_
 refine q4 ?_
 refine ts (.k2 (.i 7 (vi 0) (.d (.k2 (.i 12 (vi 0) .n))))) ?_
 refine TriE.loopN h (fun (t : Nat × Nat) => match t with | (v2, v3) => St.mk [(1, vi a1), (2, vi a2), (7, vi v2), (10, eS 2 eWindow a0), (11, vi (a0.length : Int)), (12, vi v3)] []) rfl ?_
 clear h
 rintro back ⟨v2, v3⟩ h
 dsimp only [diary_crowded_L1] at h
 refine sj ?_
 refine jo 13 (.bin .lss false 12 11) (n_lss (i := v3) (j := a0.length) rfl rfl) ?_
 refine jf (.d (.k4 (.k2 (.i 13 (vb (decide (v3 < a0.length))) .n)))) ?_
 refine q1 ?_
 refine tc h (fun c1 h => ?_) (fun c1 h => ?_)
 ·refine q2 ?_
  refine TriE.seqK h (fun (v4 : Nat) => St.mk [(1, vi a1), (2, vi a2), (10, eS 2 eWindow a0), (11, vi (a0.length : Int)), (12, vi v3), (7, vi v4)] []) ?_ ?_
  ·rintro v4 h
   refine q6 ?_
   refine cK h fun c4 h => ?_
   refine jo 28 (.bin .add false 12 (ki 1)) (r_addn (i := v3) (j := 1) rfl rfl c4) ?_
   refine jk 1 (.d (.k4 (.d (.k (.i 12 (vi ((v3 + 1 : Nat) : Int)) .n))))) ?_
   exact Vs.intro sy ⟨(v4, v3 + 1), rfl, h⟩
  intro k1 h
  refine q4 ?_
  refine sj ?_
  refine jo 14 (.iaddr 2 10 12) (ok_iaddr_m (j := v3) rfl rfl rfl c1) ?_
  refine jo 15 (.load true 2 14) (ok_load_fm (v := .agg [vi ((ix a0 v3).From), vi ((ix a0 v3).To)]) rfl c1 rfl) ?_
  refine jko 2 (.d2 (.k4 (.k2 (.i 9 (.ptr 0 0 0) .n)))) [some (.row 2 [.agg [vi ((ix a0 v3).From), vi ((ix a0 v3).To)]])] ?_
  refine sj ?_
  refine rk 5 (.k4 (.k3 (.i 20 (vb (decide (a1 ≤ ((ix a0 v3).From)))) .n))) ?_
  refine gj (.ptr 0 0 1) 21 (.faddr 1 9) 20 true rfl ?_
  refine gk (vi ((ix a0 v3).To)) 22 (.load false 1 21) 20 true rfl (fun hg => (.cons hg .nil)) ?_
  refine gj (vi a2) 23 (.mov 2) 20 true rfl ?_
  refine gk (vb (decide (((ix a0 v3).To) ≤ a2))) 24 (.bin .leq false 22 23) 20 true rfl (fun hg => (.cons hg (.cons hg .nil))) ?_
  refine pa 25 20 24 rfl rfl ?_
  refine jf (.d4 (.d (.k4 (.k2 (.i 25 (vb ((decide (a1 ≤ ((ix a0 v3).From))) && (decide (((ix a0 v3).To) ≤ a2)))) .n))))) ?_
  refine tc h (fun c2 h => ?_) (fun c2 h => ?_)
  ·refine q6 ?_
   refine rk 1 (.k2 (.d (.k3 (.i 26 (vi v2) .n)))) ?_
   refine cK h fun c3 h => ?_
   refine jo 27 (.bin .add false 26 (ki 1)) (r_addn (i := v2) (j := 1) rfl rfl c3) ?_
   refine jk 1 (.d (.k4 (.k (.i 7 (vi ((v2 + 1 : Nat) : Int)) .n)))) ?_
   exact Vs.intro (sc [] (by decide) (by kernel_rfl) ObRen.nil rfl rfl) ⟨(v2 + 1), rfl, h⟩
  refine q2 ?_
  exact Vs.intro (sc [] (by decide) (by kernel_rfl) ObRen.nil rfl rfl) ⟨v2, rfl, h⟩
 refine q5 ?_
 exact Vs.intro sy ⟨v2, rfl, h⟩
theorem diary_Crowd_ok (n : Nat) (a0 : List Window) (r : Int × Int × Int) (h : diary_Crowd n a0 = some r) : FnL Try.prog 37 [eS 2 eWindow a0] [] (.tup [.agg [vi r.2.1, vi r.2.2], vi r.1]) [] := by
 dsimp only [diary_Crowd] at h
 refine FnL.ofC [.cell 2 68, .tmp 3] Try.call37 Try.func37 rfl .nil ?_ (hl := rfl)
 refine sko (.k (.i 2 (.ptr 0 0 0) .n)) [some (.row 2 [.agg [vi 0, vi 0]])] ?_
 refine q1 ?_
 refine sj ?_
 refine rk 1 (.k2 (.i 7 (eS 2 eWindow a0) .n)) ?_
 refine bK h fun y1 hy1 h => ?_
 refine jc 8 [7] (diary_CheckWindows_ok n a0 y1 hy1) ?_
 refine jk 1 (.d (.k2 (.i 4 (vi y1) .n))) ?_
 refine sk (.k3 (.i 10 (vb (y1 != (0 : Int))) .n)) ?_
 refine tc h (fun c1 h => ?_) (fun c1 h => ?_)
 ·refine sk (.d (.k (.i 3 (vi y1) .n))) ?_
  refine q3 ?_
  have h := si h
  subst h
  exact DoneC.ret (S' := ⟨[(2, .agg [vi 0, vi 0]), (3, vi y1)], []⟩) [.agg [vi 0, vi 0], vi y1] (sc [] (by decide) (by kernel_rfl) ObRen.nil rfl rfl) rfl rfl
 refine q2 ?_
 refine TriE.seqK h (fun (_ : Unit) => St.mk [(2, .ptr 0 0 0)] [some (.row 2 [.agg [vi 0, vi 0]])]) ?_ ?_
 ·rintro ⟨⟩ h
  refine sk (.k (.i 3 (vi 12) .n)) ?_
  refine q3 ?_
  have h := si h
  subst h
  exact DoneC.ret (S' := ⟨[(2, .agg [vi 0, vi 0]), (3, vi 12)], []⟩) [.agg [vi 0, vi 0], vi 12] (sc [] (by decide) (by kernel_rfl) ObRen.nil rfl rfl) rfl rfl
 intro k2 h
 refine sko (.k2 (.i 5 (.ptr 1 0 0) .n)) [some (.row 2 [.agg [vi 0, vi 0]]), some (.row 1 [vi 1])] ?_
 refine q4 ?_
 refine TriE.loopN h (fun (v6 : Int) => St.mk [(0, eS 2 eWindow a0), (2, .ptr 0 0 0), (5, .ptr 1 0 0)] [some (.row 2 [.agg [vi 0, vi 0]]), some (.row 1 [vi v6])]) rfl ?_
 clear h
 rintro back v6 h
 dsimp only [diary_Crowd_L2] at h
 refine q1 ?_
 refine sk (.k3 (.i 14 (vb (decide (v6 ≤ (1000 : Int)))) .n)) ?_
 refine tc h (fun c2 h => ?_) (fun c2 h => ?_)
 ·refine q2 ?_
  refine TriE.seqK h (fun (_ : Unit) => St.mk [(0, eS 2 eWindow a0), (2, .ptr 0 0 0), (5, .ptr 1 0 0)] [some (.row 2 [.agg [vi 0, vi 0]]), some (.row 1 [vi v6])]) ?_ ?_
  ·rintro ⟨⟩ h
   refine q1 ?_
   refine sk (.k2 (.i 34 (vi v6) .n)) ?_
   refine tko (.k2 (.i 5 (.ptr 2 0 0) .n)) [some (.row 2 [.agg [vi 0, vi 0]]), some (.row 1 [vi v6]), some (.row 1 [vi v6])] ?_
   refine q6 ?_
   refine rk 1 (.k3 (.i 15 (vi v6) .n)) ?_
   refine cK h fun c8 h => ?_
   refine jo 16 (.bin .add false 15 (ki 1)) (r_add rfl rfl c8) ?_
   refine jko 1 (.d (.k3 .n)) [some (.row 2 [.agg [vi 0, vi 0]]), some (.row 1 [vi v6]), some (.row 1 [vi (v6 + 1)])] ?_
   exact Vs.intro (sc [0, 2] (by decide) (by kernel_rfl) (.cons rfl (.cons rfl .nil)) rfl rfl) ⟨(v6 + 1), rfl, h⟩
  intro k1 h
  refine q4 ?_
  refine q1 ?_
  refine sj ?_
  refine rk 2 (.k3 (.i 17 (eS 2 eWindow a0) (.i 18 (.fn (.func 92) [] [.ptr 1 0 0]) .n))) ?_
  refine bK h fun y7 hy7 h => ?_
  refine jco (vb y7) 19 [17, 18] (slices_ContainsFunc_Window_ok n a0 v6 y7 hy7) [1] rfl (.cons rfl .nil) (.cons rfl .nil) rfl ?_
  refine jk 1 (.d (.k3 (.i 20 (vb (!y7)) .n))) ?_
  refine tc h (fun c3 h => ?_) (fun c3 h => ?_)
  ·refine q5 ?_
   exact Vs.intro sy ⟨(), rfl, h⟩
  refine q2 ?_
  refine sj ?_
  refine rk 1 (.k3 (.i 21 (vi v6) .n)) ?_
  refine cK h fun c4 h => ?_
  refine jo 22 (.bin .sub false 21 (ki 1)) (r_sub rfl rfl c4) ?_
  refine jk 1 (.d (.k3 (.i 6 (vi (v6 - 1)) .n))) ?_
  refine q4 ?_
  refine TriE.loopN h (fun (v9 : Int) => St.mk [(0, eS 2 eWindow a0), (2, .ptr 0 0 0), (5, .ptr 1 0 0), (6, vi v9)] [some (.row 2 [.agg [vi 0, vi 0]]), some (.row 1 [vi v6])]) rfl ?_
  clear h
  rintro back v9 h
  dsimp only [diary_Crowd_L1] at h
  refine q1 ?_
  refine sk (.k4 (.i 24 (vb (decide ((0 : Int) ≤ v9))) .n)) ?_
  refine tc h (fun c5 h => ?_) (fun c5 h => ?_)
  ·refine q2 ?_
   refine q7 ?_
   refine sj ?_
   refine rk 3 (.k4 (.i 27 (eS 2 eWindow a0) (.i 28 (vi v9) (.i 29 (vi v6) .n)))) ?_
   refine bK h fun y10 hy10 h => ?_
   refine jc 30 [27, 28, 29] (diary_crowded_ok n a0 v9 v6 y10 hy10) ?_
   refine jf (.d (.k4 (.i 30 (vb y10) .n))) ?_
   refine tc h (fun c6 h => ?_) (fun c6 h => ?_)
   ·refine sko (.d (.k (.i 3 (vi 0) .n))) [some (.row 2 [.agg [vi v9, vi v6]]), some (.row 1 [vi v6])] ?_
    refine q3 ?_
    have h := si h
    subst h
    exact DoneC.ret (S' := ⟨[(2, .agg [vi v9, vi v6]), (3, vi 0)], []⟩) [.agg [vi v9, vi v6], vi 0] (sc [] (by decide) (by kernel_rfl) ObRen.nil rfl rfl) rfl rfl
   refine q2 ?_
   refine q6 ?_
   refine rk 1 (.k3 (.i 25 (vi v9) .n)) ?_
   refine cK h fun c7 h => ?_
   refine jo 26 (.bin .sub false 25 (ki 1)) (r_sub rfl rfl c7) ?_
   refine jk 1 (.d (.k3 (.i 6 (vi (v9 - 1)) .n))) ?_
   exact Vs.intro Sees.refl ⟨(v9 - 1), rfl, h⟩
  refine q5 ?_
  exact Vs.intro sy ⟨(), rfl, h⟩
 refine q5 ?_
 exact Vs.intro (sc [0] (by decide) (by kernel_rfl) (.cons rfl .nil) rfl rfl) ⟨(), rfl, h⟩
theorem agrafferef09_CheckWindows_ok (n : Nat) (a0 : List Window) (r : Int) (h : agrafferef09_CheckWindows n a0 = some r) : FnL Try.prog 38 [eS 2 eWindow a0] [] (vi r) [] := by
 dsimp only [agrafferef09_CheckWindows] at h
 refine fo [2] Try.call38 Try.func38 rfl ?_
 refine sk .a ?_
 refine q1 ?_
 refine sj ?_
 refine rk 1 (.k (.i 4 (eS 2 eWindow a0) .n)) ?_
 refine jo 5 (.len 0 4) (ok_len_m rfl) ?_
 refine jo 6 (.bin .gtr false 5 (ki 60)) (n_gtr (i := a0.length) (j := 60) rfl rfl) ?_
 refine jf (.d2 (.k (.i 6 (vb (decide (60 < a0.length))) .n))) ?_
 refine tc h (fun c1 h => ?_) (fun c1 h => ?_)
 ·refine sk (.i 2 (vi 8) .n) ?_
  refine q3 ?_
  have h := si h
  subst h
  exact DoneS.ret Sees.refl rfl rfl
 refine q2 ?_
 refine TriE.seqK h (fun (_ : Unit) => St.mk [] []) ?_ ?_
 ·rintro ⟨⟩ h
  refine sk (.i 2 (vi 0) .n) ?_
  refine q3 ?_
  have h := si h
  subst h
  exact DoneS.ret Sees.refl rfl rfl
 intro k1 h
 refine sk (.k (.i 3 (vi 0) .n)) ?_
 refine q4 ?_
 refine ts (.k (.i 3 (vi 0) .n)) ?_
 refine TriE.loopN h (fun (v3 : Nat) => St.mk [(0, eS 2 eWindow a0), (3, vi v3)] []) rfl ?_
 clear h
 rintro back v3 h
 dsimp only [agrafferef09_CheckWindows_L1] at h
 refine q1 ?_
 refine sj ?_
 refine rk 2 (.k2 (.i 7 (vi v3) (.i 8 (eS 2 eWindow a0) .n))) ?_
 refine jo 9 (.len 0 8) (ok_len_m rfl) ?_
 refine jo 10 (.bin .lss false 7 9) (n_lss (i := v3) (j := a0.length) rfl rfl) ?_
 refine jf (.d2 (.k2 (.i 10 (vb (decide (v3 < a0.length))) .n))) ?_
 refine tc h (fun c2 h => ?_) (fun c2 h => ?_)
 ·refine q2 ?_
  refine q7 ?_
  refine q1 ?_
  refine sj ?_
  refine rk 2 (.k2 (.i 13 (eS 2 eWindow a0) (.i 14 (vi v3) .n))) ?_
  refine jo 15 (.iaddr 2 13 14) (ok_iaddr_m (j := v3) rfl rfl rfl c2) ?_
  refine rk 1 (.d (.k2 (.i 16 (.fptr 2 (List.map eWindow a0) v3 0) .n))) ?_
  refine jo 17 (.load false 1 16) (ok_load_fm (v := vi ((ix a0 v3).From)) rfl c2 rfl) ?_
  refine bK h fun y4 hy4 h => ?_
  refine jc 18 [17, (ki 0), (ki 1000)] (agraffebase_Within_ok n ((ix a0 v3).From) 0 1000 y4 hy4) ?_
  refine rk 2 (.d2 (.k2 (.i 20 (vb (!((decide (0 ≤ ((ix a0 v3).From))) && (decide (((ix a0 v3).From) ≤ 1000))))) .n))) ?_
  refine gj (eS 2 eWindow a0) 21 (.mov 0) 20 false rfl ?_
  refine gj (vi v3) 22 (.mov 3) 20 false rfl ?_
  refine gv 23 (.iaddr 2 21 22) 20 false rfl (fun hg => (ok_iaddr_m (j := v3) rfl rfl rfl c2)) (fun hg => (.cons hg (.cons hg .nil))) ?_
  refine gk (.fptr 2 (List.map eWindow a0) v3 1) 24 (.faddr 1 23) 20 false rfl (fun hg => (.cons hg .nil)) ?_
  refine gv 25 (.load false 1 24) 20 false rfl (fun hg => (ok_load_fm (v := vi ((ix a0 v3).To)) rfl c2 rfl)) (fun hg => (.cons hg .nil)) ?_
  refine bK h fun y5 hy5 h => ?_
  refine gc 26 [25, (ki 0), (ki 1000)] 20 false rfl (fun hg => agraffebase_Within_ok n ((ix a0 v3).To) 0 1000 y5 (gcall_some hy5 hg)) (fun hg => (.cons rfl (.cons hg (.cons rfl (.cons rfl .nil))))) (fun hg => by kernel_rfl) ?_
  refine gk (vb (!((decide (0 ≤ ((ix a0 v3).To))) && (decide (((ix a0 v3).To) ≤ 1000))))) 27 (.un .not 26) 20 false rfl (fun hg => (.cons hg .nil)) ?_
  refine po 28 20 27 rfl rfl ?_
  refine jf (.d4 (.d4 (.k2 (.i 28 (vb ((!((decide (0 ≤ ((ix a0 v3).From))) && (decide (((ix a0 v3).From) ≤ 1000)))) || (!((decide (0 ≤ ((ix a0 v3).To))) && (decide (((ix a0 v3).To) ≤ 1000)))))) .n)))) ?_
  refine tc h (fun c3 h => ?_) (fun c3 h => ?_)
  ·refine sk (.i 2 (vi 2) .n) ?_
   refine q3 ?_
   have h := si h
   subst h
   exact DoneS.ret Sees.refl rfl rfl
  refine q2 ?_
  refine q1 ?_
  refine ts (.k2 .n) ?_
  refine TriE.draw (by kernel_rfl) ?_
  refine dk 2 (.i 30 (vi v3) (.i 29 (eS 2 eWindow a0) .a)) ?_
  refine dp 31 (.iaddr 2 29 30) (ok_iaddr_m (j := v3) rfl rfl rfl c2) ?_
  refine dk 1 (.i 32 (.fptr 2 (List.map eWindow a0) v3 1) .a) ?_
  refine dp 33 (.load false 1 32) (ok_load_fm (v := vi ((ix a0 v3).To)) rfl c2 rfl) ?_
  refine dk 2 (.i 35 (vi v3) (.i 34 (eS 2 eWindow a0) .a)) ?_
  refine dp 36 (.iaddr 2 34 35) (ok_iaddr_m (j := v3) rfl rfl rfl c2) ?_
  refine dk 1 (.i 37 (.fptr 2 (List.map eWindow a0) v3 0) .a) ?_
  refine dp 38 (.load false 1 37) (ok_load_fm (v := vi ((ix a0 v3).From)) rfl c2 rfl) ?_
  refine dk 1 (.i 39 (vb (decide (((ix a0 v3).To) ≤ ((ix a0 v3).From)))) .a) ?_
  refine dfi (.d4 (.d4 (.d3 (.k2 (.i 39 (vb (decide (((ix a0 v3).To) ≤ ((ix a0 v3).From)))) .n))))) [] ObRen.nil ?_
  refine tc h (fun c4 h => ?_) (fun c4 h => ?_)
  ·refine sk (.i 2 (vi 9) .n) ?_
   refine q3 ?_
   have h := si h
   subst h
   exact DoneS.ret Sees.refl rfl rfl
  refine q2 ?_
  refine q6 ?_
  refine rk 1 (.k (.i 11 (vi v3) .n)) ?_
  refine cK h fun c5 h => ?_
  refine jo 12 (.bin .add false 11 (ki 1)) (r_addn (i := v3) (j := 1) rfl rfl c5) ?_
  refine jk 1 (.d (.k (.i 3 (vi ((v3 + 1 : Nat) : Int)) .n))) ?_
  exact Vs.intro sy ⟨(v3 + 1), rfl, h⟩
 refine q5 ?_
 exact Vs.intro sy ⟨(), rfl, h⟩
theorem agraffebase_CopyInts_ok (n : Nat) (a0 : List Int) (r : Unit) (h : agraffebase_CopyInts n a0 = some r) : FnL Try.prog 45 [eS 1 vi a0] [] (.own 0 0 a0.length) [some (.row 1 (List.map vi a0))] := by
 dsimp only [agraffebase_CopyInts] at h
 refine fo [2] Try.call45 Try.func45 rfl ?_
 refine sk .a ?_
 refine sj ?_
 refine rk 2 (.i 3 .emp (.i 4 (eS 1 vi a0) .n)) ?_
 refine cK h fun c1 h => ?_
 refine jx 5 (.app 1 8 3 4) _ (ok_app_emp (e := vi) (l := a0) (u := eS 1 vi a0) rfl rfl els_sl c1) rfl rfl ?_
 refine jk 1 (.i 2 (.own 0 0 a0.length) .n) ?_
 refine q3 ?_
 have h := si h
 subst h
 exact DoneS.ret Sees.refl rfl rfl
set_option maxHeartbeats 1000000 in
theorem diary_CheckSlots_ok (n : Nat) (a0 : List Window) (a1 : List Int) (r : Int × Int) (h : diary_CheckSlots n a0 a1 = some r) : FnL Try.prog 44 [eS 2 eWindow a0, eS 1 vi a1] [] (.tup [vi r.2, vi r.1]) [] := by
 dsimp only [diary_CheckSlots] at h
 refine fo [4, 5] Try.call44 Try.func44 rfl ?_
 refine sk .a ?_
 refine q1 ?_
 refine sj ?_
 refine rk 1 (.k2 (.i 10 (eS 2 eWindow a0) .n)) ?_
 refine bK h fun y1 hy1 h => ?_
 refine jc 11 [10] (diary_CheckWindows_ok n a0 y1 hy1) ?_
 refine jk 1 (.d (.k2 (.i 6 (vi y1) .n))) ?_
 refine sk (.k3 (.i 13 (vb (y1 != (0 : Int))) .n)) ?_
 refine tc h (fun c1 h => ?_) (fun c1 h => ?_)
 ·refine sk (.i 4 (vi 0) (.i 5 (vi y1) .n)) ?_
  refine q3 ?_
  have h := si h
  subst h
  exact DoneS.ret Sees.refl rfl rfl
 refine q2 ?_
 refine q1 ?_
 refine sj ?_
 refine rk 1 (.k2 (.i 15 (eS 1 vi a1) .n)) ?_
 refine jo 16 (.len 0 15) (ok_len_m rfl) ?_
 refine rk 1 (.d (.k2 (.i 16 (vi (a1.length : Int)) (.i 17 (eS 2 eWindow a0) .n)))) ?_
 refine jo 18 (.len 0 17) (ok_len_m rfl) ?_
 refine jo 19 (.bin .neq false 16 18) (n_neq (i := a1.length) (j := a0.length) rfl rfl) ?_
 refine jf (.d2 (.k2 (.i 19 (vb (!decide (a1.length = a0.length))) .n))) ?_
 refine tc h (fun c2 h => ?_) (fun c2 h => ?_)
 ·refine sk (.i 4 (vi 0) (.i 5 (vi 10) .n)) ?_
  refine q3 ?_
  have h := si h
  subst h
  exact DoneS.ret Sees.refl rfl rfl
 refine q2 ?_
 refine sj ?_
 refine jx 20 .mkmap _ rfl rfl rfl ?_
 refine jk 1 (.d (.k2 (.i 7 (.map 0) .n))) ?_
 refine TriE.seqK h (fun (v6 : (List (Int × Bool))) => St.mk [(7, .map 0)] [some (.mp (mpE vi vb v6))]) ?_ ?_
 ·rintro v6 h
  refine sj ?_
  refine rk 1 (.i 55 (.map 0) .n) ?_
  refine jo 56 (.len 2 55) (ok_len_mp rfl rfl) ?_
  refine jk 2 (.i 4 (vi (v6.length : Int)) (.i 5 (vi 0) .n)) ?_
  refine q3 ?_
  have h := si h
  subst h
  exact DoneS.ret (S' := ⟨[(4, vi (v6.length : Int)), (5, vi 0)], []⟩) (sc [] (by decide) (by kernel_rfl) ObRen.nil rfl rfl) rfl rfl
 intro k2 h
 refine sj ?_
 refine rk 1 (.k (.d (.k (.i 21 (eS 1 vi a1) .n)))) ?_
 refine jo 22 (.len 0 21) (ok_len_m rfl) ?_
 refine jk 1 (.d (.k3 (.i 22 (vi (a1.length : Int)) (.i 23 (vi 0) .n)))) ?_
 refine q4 ?_
 refine ts (.k4 (.i 23 (vi 0) .n)) ?_
 refine TriE.loopN h (fun (t : Nat × (List (Int × Bool))) => match t with | (v3, v4) => St.mk [(0, eS 2 eWindow a0), (7, .map 0), (21, eS 1 vi a1), (22, vi (a1.length : Int)), (23, vi v3)] [some (.mp (mpE vi vb v4))]) rfl ?_
 clear h
 rintro back ⟨v3, v4⟩ h
 dsimp only [diary_CheckSlots_L1] at h
 refine sj ?_
 refine jo 24 (.bin .lss false 23 22) (n_lss (i := v3) (j := a1.length) rfl rfl) ?_
 refine jf (.d (.k4 (.k (.i 24 (vb (decide (v3 < a1.length))) .n)))) ?_
 refine q1 ?_
 refine tc h (fun c3 h => ?_) (fun c3 h => ?_)
 ·refine q2 ?_
  refine TriE.seqK h (fun (v5 : (List (Int × Bool))) => St.mk [(0, eS 2 eWindow a0), (7, .map 0), (21, eS 1 vi a1), (22, vi (a1.length : Int)), (23, vi v3)] [some (.mp (mpE vi vb v5))]) ?_ ?_
  ·rintro v5 h
   refine q6 ?_
   refine cK h fun c8 h => ?_
   refine jo 54 (.bin .add false 23 (ki 1)) (r_addn (i := v3) (j := 1) rfl rfl c8) ?_
   refine jk 1 (.d (.k4 (.i 23 (vi ((v3 + 1 : Nat) : Int)) .n))) ?_
   exact Vs.intro sy ⟨(v3 + 1, v5), rfl, h⟩
  intro k1 h
  refine q4 ?_
  refine sj ?_
  refine rk 1 (.k4 (.k (.i 25 (vi v3) .n))) ?_
  refine jo 26 (.iaddr 1 21 23) (ok_iaddr_m (j := v3) rfl rfl rfl c3) ?_
  refine jo 27 (.load false 1 26) (ok_load_fm (v := vi (ix a1 v3)) rfl c3 rfl) ?_
  refine jk 2 (.d2 (.k4 (.k (.i 8 (vi v3) (.i 9 (vi (ix a1 v3)) .n))))) ?_
  refine q7 ?_
  refine sk (.k4 (.k3 (.i 28 (vb ((ix a1 v3) == ((-1) : Int))) .n))) ?_
  refine tc h (fun c4 h => ?_) (fun c4 h => ?_)
  ·refine q5 ?_
   exact Vs.intro sy ⟨v4, rfl, h⟩
  refine sj ?_
  refine rk 3 (.k4 (.k3 (.i 32 (vi (ix a1 v3)) (.i 33 (eS 2 eWindow a0) (.i 34 (vi v3) .n))))) ?_
  refine cK h fun c5 h => ?_
  refine jo 35 (.iaddr 2 33 34) (ok_iaddr_m (j := v3) rfl rfl rfl c5) ?_
  refine rk 1 (.d (.k4 (.k4 (.i 36 (.fptr 2 (List.map eWindow a0) v3 0) .n)))) ?_
  refine jo 37 (.load false 1 36) (ok_load_fm (v := vi ((ix a0 v3).From)) rfl c5 rfl) ?_
  refine rk 2 (.d (.k4 (.k3 (.i 39 (vb (decide ((ix a1 v3) < ((ix a0 v3).From)))) .n)))) ?_
  refine gj (vi (ix a1 v3)) 40 (.mov 9) 39 false rfl ?_
  refine gj (eS 2 eWindow a0) 41 (.mov 0) 39 false rfl ?_
  refine gj (vi v3) 42 (.mov 8) 39 false rfl ?_
  refine gv 43 (.iaddr 2 41 42) 39 false rfl (fun hg => (ok_iaddr_m (j := v3) rfl rfl rfl c5)) (fun hg => (.cons hg (.cons hg .nil))) ?_
  refine gk (.fptr 2 (List.map eWindow a0) v3 1) 44 (.faddr 1 43) 39 false rfl (fun hg => (.cons hg .nil)) ?_
  refine gv 45 (.load false 1 44) 39 false rfl (fun hg => (ok_load_fm (v := vi ((ix a0 v3).To)) rfl c5 rfl)) (fun hg => (.cons hg .nil)) ?_
  refine gk (vb (decide (((ix a0 v3).To) ≤ (ix a1 v3)))) 46 (.bin .geq false 40 45) 39 false rfl (fun hg => (.cons hg (.cons hg .nil))) ?_
  refine po 47 39 46 rfl rfl ?_
  refine jk 1 (.d4 (.d4 (.k4 (.k (.d (.k (.i 31 (vb ((decide ((ix a1 v3) < ((ix a0 v3).From))) || (decide (((ix a0 v3).To) ≤ (ix a1 v3))))) .n))))))) ?_
  refine tc h (fun c6 h => ?_) (fun c6 h => ?_)
  ·refine sk (.i 4 (vi 0) (.i 5 (vi 2) .n)) ?_
   refine q3 ?_
   have h := si h
   subst h
   exact DoneS.ret (S' := ⟨[(4, vi 0), (5, vi 2)], []⟩) (sc [] (by decide) (by kernel_rfl) ObRen.nil rfl rfl) rfl rfl
  refine sj ?_
  refine rk 2 (.k4 (.k2 (.i 49 (.map 0) (.i 50 (vi (ix a1 v3)) .n)))) ?_
  refine jo 51 (.lookup false (.p (.bool false)) false 49 50) (ok_lookup_i (l := v4) (ev := vb) (z0 := false) rfl rfl rfl rfl) ?_
  refine jk 1 (.d (.k4 (.k2 (.i 48 (vb (Option.getD (List.lookup (ix a1 v3) v4) false)) .n)))) ?_
  refine tc h (fun c7 h => ?_) (fun c7 h => ?_)
  ·refine sk (.i 4 (vi 0) (.i 5 (vi 5) .n)) ?_
   refine q3 ?_
   have h := si h
   subst h
   exact DoneS.ret (S' := ⟨[(4, vi 0), (5, vi 5)], []⟩) (sc [] (by decide) (by kernel_rfl) ObRen.nil rfl rfl) rfl rfl
  refine q2 ?_
  refine q6 ?_
  refine rk 2 (.k4 (.k (.i 52 (.map 0) (.i 53 (vi (ix a1 v3)) .n)))) ?_
  refine jn (.mapset false 52 53 (.c (.p (.bool true)))) _ (ok_mapset_i (l := v4) (ev := vb) (v := true) rfl rfl rfl rfl) rfl rfl ?_
  refine jf (.k4 (.k .n)) ?_
  exact Vs.intro Sees.refl ⟨(mPut (ix a1 v3) true v4), rfl, h⟩
 refine q5 ?_
 exact Vs.intro sy ⟨v4, rfl, h⟩
theorem agraffelaw09_windows_2_ok (n : Nat) (a0 : List Window) (r : Unit) (h : agraffelaw09_windows_2 n a0 = some r) : FnL Try.prog 35 [eS 2 eWindow a0] [] (eS 2 eWindow a0) [] := by
 dsimp only [agraffelaw09_windows_2] at h
 refine fo [2] Try.call35 Try.func35 rfl ?_
 refine sk .a ?_
 refine sj ?_
 refine rk 2 (.i 3 .emp (.i 4 (eS 2 eWindow a0) .n)) ?_
 refine cK h fun c1 h => ?_
 refine jx 5 (.app 2 16 3 4) _ (ok_app_emp (e := eWindow) (l := a0) (u := eS 2 eWindow a0) rfl rfl els_sl c1) rfl rfl ?_
 refine jk 1 (.i 2 (.own 0 0 a0.length) .n) ?_
 refine q3 ?_
 have h := si h
 subst h
 exact DoneS.ret (S' := ⟨[(2, eS 2 eWindow a0)], []⟩) (Sees.trans (Sees.freeze 0 (fr' := [(2, eS 2 eWindow a0)]) (ob' := [none]) rfl (frz_row eWindow_frzE _) (.cons (frz_full rfl) .nil) rfl) (sc [] (by decide) (by kernel_rfl) ObRen.nil rfl rfl)) rfl rfl
theorem diary_CheckCrowd_ok (n : Nat) (a0 : List Window) (a1 : Arr2_Int) (r : Int) (h : diary_CheckCrowd n a0 a1 = some r) : FnL Try.prog 46 [eS 2 eWindow a0, .agg [vi a1.a0, vi a1.a1]] [] (vi r) [] := by
 dsimp only [diary_CheckCrowd] at h
 refine fo [4] Try.call46 Try.func46 rfl ?_
 refine sko (.k (.i 3 (.ptr 0 0 0) .n)) [some (.row 2 [.agg [vi a1.a0, vi a1.a1]])] ?_
 refine q1 ?_
 refine sj ?_
 refine rk 1 (.k2 (.i 6 (eS 2 eWindow a0) .n)) ?_
 refine bK h fun y1 hy1 h => ?_
 refine jc 7 [6] (diary_CheckWindows_ok n a0 y1 hy1) ?_
 refine jk 1 (.d (.k2 (.i 5 (vi y1) .n))) ?_
 refine sk (.k3 (.i 9 (vb (y1 != (0 : Int))) .n)) ?_
 refine tc h (fun c1 h => ?_) (fun c1 h => ?_)
 ·refine sk (.i 4 (vi y1) .n) ?_
  refine q3 ?_
  have h := si h
  subst h
  exact DoneS.ret (S' := ⟨[(4, vi y1)], []⟩) (sc [] (by decide) (by kernel_rfl) ObRen.nil rfl rfl) rfl rfl
 refine q2 ?_
 refine q7 ?_
 refine sj ?_
 refine rk 2 (.k2 (.i 13 (vi a1.a0) .n)) ?_
 refine bK h fun y2 hy2 h => ?_
 refine jc 14 [13, (ki 0), (ki 1000)] (diary_within_ok n a1.a0 0 1000 y2 hy2) ?_
 refine rk 2 (.d (.k2 (.i 16 (vb (!((decide (0 ≤ a1.a0)) && (decide (a1.a0 ≤ 1000))))) .n))) ?_
 refine gj (.ptr 0 0 1) 17 (.aaddr 2 1 3 (ki 1)) 16 false rfl ?_
 refine gk (vi a1.a1) 18 (.load false 1 17) 16 false rfl (fun hg => (.cons hg .nil)) ?_
 refine bK h fun y3 hy3 h => ?_
 refine gc 19 [18, (ki 0), (ki 1000)] 16 false rfl (fun hg => diary_within_ok n a1.a1 0 1000 y3 (gcall_some hy3 hg)) (fun hg => (.cons rfl (.cons hg (.cons rfl (.cons rfl .nil))))) (fun hg => by kernel_rfl) ?_
 refine gk (vb (!((decide (0 ≤ a1.a1)) && (decide (a1.a1 ≤ 1000))))) 20 (.un .not 19) 16 false rfl (fun hg => (.cons hg .nil)) ?_
 refine po 21 16 20 rfl rfl ?_
 refine jk 1 (.d4 (.d (.k2 (.i 11 (vb ((!((decide (0 ≤ a1.a0)) && (decide (a1.a0 ≤ 1000)))) || (!((decide (0 ≤ a1.a1)) && (decide (a1.a1 ≤ 1000)))))) .n)))) ?_
 refine tc h (fun c2 h => ?_) (fun c2 h => ?_)
 ·refine sk (.i 4 (vi 2) .n) ?_
  refine q3 ?_
  have h := si h
  subst h
  exact DoneS.ret (S' := ⟨[(4, vi 2)], []⟩) (sc [] (by decide) (by kernel_rfl) ObRen.nil rfl rfl) rfl rfl
 refine sk (.k2 (.i 22 (vb (decide (a1.a1 ≤ a1.a0))) .n)) ?_
 refine tc h (fun c3 h => ?_) (fun c3 h => ?_)
 ·refine sk (.i 4 (vi 9) .n) ?_
  refine q3 ?_
  have h := si h
  subst h
  exact DoneS.ret (S' := ⟨[(4, vi 9)], []⟩) (sc [] (by decide) (by kernel_rfl) ObRen.nil rfl rfl) rfl rfl
 refine sj ?_
 refine rk 5 (.i 29 (eS 2 eWindow a0) (.i 31 (vi a1.a0) (.i 33 (vi a1.a1) .n))) ?_
 refine bK h fun y4 hy4 h => ?_
 refine jc 34 [29, 31, 33] (diary_crowded_ok n a0 a1.a0 a1.a1 y4 hy4) ?_
 refine jk 2 (.i 28 (vb (!y4)) .n) ?_
 refine tc h (fun c4 h => ?_) (fun c4 h => ?_)
 ·refine sk (.i 4 (vi 22) .n) ?_
  refine q3 ?_
  have h := si h
  subst h
  exact DoneS.ret (S' := ⟨[(4, vi 22)], []⟩) (sc [] (by decide) (by kernel_rfl) ObRen.nil rfl rfl) rfl rfl
 refine q2 ?_
 refine sk (.i 4 (vi 0) .n) ?_
 refine q3 ?_
 have h := si h
 subst h
 exact DoneS.ret (S' := ⟨[(4, vi 0)], []⟩) (sc [] (by decide) (by kernel_rfl) ObRen.nil rfl rfl) rfl rfl
theorem agraffelaw09_done_ok (n : Nat) (a0 : List Int) (r : Int) (h : agraffelaw09_done n a0 = some r) : FnL Try.prog 50 [eS 1 vi a0] [] (vi r) [] := by
 dsimp only [agraffelaw09_done] at h
 refine fo [2] Try.call50 Try.func50 rfl ?_
 refine sk .a ?_
 refine sk (.k (.i 3 (vi 0) .n)) ?_
 refine TriE.seqK h (fun (v5 : Nat) => St.mk [(3, vi v5)] []) ?_ ?_
 ·rintro v5 h
  refine sk (.i 2 (vi v5) .n) ?_
  refine q3 ?_
  have h := si h
  subst h
  exact DoneS.ret Sees.refl rfl rfl
 intro k2 h
 refine sk (.k2 (.i 4 (vi 0) .n)) ?_
 refine q4 ?_
 refine ts (.k (.i 3 (vi 0) (.i 4 (vi 0) .n))) ?_
 refine TriE.loopN h (fun (t : Nat × Nat) => match t with | (v2, v3) => St.mk [(0, eS 1 vi a0), (3, vi v2), (4, vi v3)] []) rfl ?_
 clear h
 rintro back ⟨v2, v3⟩ h
 dsimp only [agraffelaw09_done_L1] at h
 refine q1 ?_
 refine sj ?_
 refine rk 2 (.k3 (.i 5 (vi v3) (.i 6 (eS 1 vi a0) .n))) ?_
 refine jo 7 (.len 0 6) (ok_len_m rfl) ?_
 refine jo 8 (.bin .lss false 5 7) (n_lss (i := v3) (j := a0.length) rfl rfl) ?_
 refine jf (.d2 (.k3 (.i 8 (vb (decide (v3 < a0.length))) .n))) ?_
 refine tc h (fun c1 h => ?_) (fun c1 h => ?_)
 ·refine q2 ?_
  refine TriE.seqK h (fun (v4 : Nat) => St.mk [(0, eS 1 vi a0), (4, vi v3), (3, vi v4)] []) ?_ ?_
  ·rintro v4 h
   refine q6 ?_
   refine rk 1 (.k (.d (.k (.i 9 (vi v3) .n)))) ?_
   refine cK h fun c4 h => ?_
   refine jo 10 (.bin .add false 9 (ki 1)) (r_addn (i := v3) (j := 1) rfl rfl c4) ?_
   refine jk 1 (.d (.k2 (.i 4 (vi ((v3 + 1 : Nat) : Int)) .n))) ?_
   exact Vs.intro sy ⟨(v4, v3 + 1), rfl, h⟩
  intro k1 h
  refine q4 ?_
  refine sj ?_
  refine rk 2 (.k3 (.i 11 (eS 1 vi a0) (.i 12 (vi v3) .n))) ?_
  refine jo 13 (.iaddr 1 11 12) (ok_iaddr_m (j := v3) rfl rfl rfl c1) ?_
  refine jo 14 (.load false 1 13) (ok_load_fm (v := vi (ix a0 v3)) rfl c1 rfl) ?_
  refine jk 1 (.d2 (.k3 (.i 15 (vb ((ix a0 v3) != ((-1) : Int))) .n))) ?_
  refine tc h (fun c2 h => ?_) (fun c2 h => ?_)
  ·refine q6 ?_
   refine rk 1 (.k (.d (.k (.i 16 (vi v2) .n)))) ?_
   refine cK h fun c3 h => ?_
   refine jo 17 (.bin .add false 16 (ki 1)) (r_addn (i := v2) (j := 1) rfl rfl c3) ?_
   refine jk 1 (.d (.k2 (.i 3 (vi ((v2 + 1 : Nat) : Int)) .n))) ?_
   exact Vs.intro sy ⟨(v2 + 1), rfl, h⟩
  refine q2 ?_
  exact Vs.intro sy ⟨v2, rfl, h⟩
 refine q5 ?_
 exact Vs.intro sy ⟨v2, rfl, h⟩
theorem diary_CheckWindows_2_ok (n : Nat) (a0 : List Window) (r : Int) (h : diary_CheckWindows_2 n a0 = some r) : FnL Try.prog 39 [.own 0 0 a0.length] [some (.row 2 (List.map eWindow a0))] (vi r) [some (.row 2 (List.map eWindow a0))] := by
 dsimp only [diary_CheckWindows_2] at h
 refine fob [2] Try.call39 Try.func39 rfl (.cons rfl .nil) ?_
 refine sk .a ?_
 refine q1 ?_
 refine sj ?_
 refine rk 2 (.k (.i 6 (vi (a0.length : Int)) .n)) ?_
 refine jo 7 (.bin .gtr false 6 (ki 60)) (n_gtr (i := a0.length) (j := 60) rfl rfl) ?_
 refine jf (.d (.k (.i 7 (vb (decide (60 < a0.length))) .n))) ?_
 refine tc h (fun c1 h => ?_) (fun c1 h => ?_)
 ·refine sk (.i 2 (vi 8) .n) ?_
  refine q3 ?_
  have h := si h
  subst h
  exact DoneS.ret Sees.refl rfl rfl
 refine q2 ?_
 refine TriE.seqK h (fun (_ : Unit) => St.mk [] [some (.row 2 (List.map eWindow a0))]) ?_ ?_
 ·rintro ⟨⟩ h
  refine sk (.i 2 (vi 0) .n) ?_
  refine q3 ?_
  have h := si h
  subst h
  exact DoneS.ret Sees.refl rfl rfl
 intro k1 h
 refine sk (.i 8 (.own 0 0 a0.length) (.i 9 (vi (a0.length : Int)) (.i 10 (vi 0) .n))) ?_
 refine q4 ?_
 refine ts (.k2 (.i 10 (vi 0) .n)) ?_
 refine TriE.loopN h (fun (v3 : Nat) => St.mk [(8, .own 0 0 a0.length), (9, vi (a0.length : Int)), (10, vi v3)] [some (.row 2 (List.map eWindow a0))]) rfl ?_
 clear h
 rintro back v3 h
 dsimp only [diary_CheckWindows_2_L1] at h
 refine sj ?_
 refine jo 11 (.bin .lss false 10 9) (n_lss (i := v3) (j := a0.length) rfl rfl) ?_
 refine jf (.d (.k3 (.i 11 (vb (decide (v3 < a0.length))) .n))) ?_
 refine q1 ?_
 refine tc h (fun c2 h => ?_) (fun c2 h => ?_)
 ·refine q2 ?_
  refine q7 ?_
  refine sj ?_
  refine jo 12 (.iaddr 2 8 10) (ok_iaddr_o0 (j := v3) rfl rfl rfl rfl c2) ?_
  refine jo 13 (.load true 2 12) (ok_load_pm (l := a0) (e := eWindow) (v := .agg [vi ((ix a0 v3).From), vi ((ix a0 v3).To)]) rfl rfl c2 rfl) ?_
  refine jko 2 (.d2 (.k3 (.i 4 (.ptr 1 0 0) .n))) [some (.row 2 (List.map eWindow a0)), some (.row 2 [.agg [vi ((ix a0 v3).From), vi ((ix a0 v3).To)]])] ?_
  refine q4 ?_
  refine sj ?_
  refine rk 2 (.k4 (.i 16 (vi ((ix a0 v3).From)) .n)) ?_
  refine bK h fun y4 hy4 h => ?_
  refine jc 17 [16, (ki 0), (ki 1000)] (diary_within_ok n ((ix a0 v3).From) 0 1000 y4 hy4) ?_
  refine rk 2 (.d (.k4 (.i 19 (vb (!((decide (0 ≤ ((ix a0 v3).From))) && (decide (((ix a0 v3).From) ≤ 1000))))) .n))) ?_
  refine gj (.ptr 1 0 1) 20 (.faddr 1 4) 19 false rfl ?_
  refine gk (vi ((ix a0 v3).To)) 21 (.load false 1 20) 19 false rfl (fun hg => (.cons hg .nil)) ?_
  refine bK h fun y5 hy5 h => ?_
  refine gc 22 [21, (ki 0), (ki 1000)] 19 false rfl (fun hg => diary_within_ok n ((ix a0 v3).To) 0 1000 y5 (gcall_some hy5 hg)) (fun hg => (.cons rfl (.cons hg (.cons rfl (.cons rfl .nil))))) (fun hg => by kernel_rfl) ?_
  refine gk (vb (!((decide (0 ≤ ((ix a0 v3).To))) && (decide (((ix a0 v3).To) ≤ 1000))))) 23 (.un .not 22) 19 false rfl (fun hg => (.cons hg .nil)) ?_
  refine po 24 19 23 rfl rfl ?_
  refine jk 1 (.d4 (.d (.k4 (.i 14 (vb ((!((decide (0 ≤ ((ix a0 v3).From))) && (decide (((ix a0 v3).From) ≤ 1000)))) || (!((decide (0 ≤ ((ix a0 v3).To))) && (decide (((ix a0 v3).To) ≤ 1000)))))) .n)))) ?_
  refine tc h (fun c3 h => ?_) (fun c3 h => ?_)
  ·refine sk (.i 2 (vi 2) .n) ?_
   refine q3 ?_
   have h := si h
   subst h
   exact DoneS.ret (S' := ⟨[(2, vi 2)], [some (.row 2 (List.map eWindow a0))]⟩) (sc [0] (by decide) (by kernel_rfl) (obRen_row eWindow_frz rfl .nil) rfl rfl) rfl rfl
  refine sk (.k3 (.i 25 (vb (decide (((ix a0 v3).To) ≤ ((ix a0 v3).From)))) .n)) ?_
  refine tc h (fun c4 h => ?_) (fun c4 h => ?_)
  ·refine sk (.i 2 (vi 9) .n) ?_
   refine q3 ?_
   have h := si h
   subst h
   exact DoneS.ret (S' := ⟨[(2, vi 9)], [some (.row 2 (List.map eWindow a0))]⟩) (sc [0] (by decide) (by kernel_rfl) (obRen_row eWindow_frz rfl .nil) rfl rfl) rfl rfl
  refine q2 ?_
  refine q6 ?_
  refine cK h fun c5 h => ?_
  refine jo 31 (.bin .add false 10 (ki 1)) (r_addn (i := v3) (j := 1) rfl rfl c5) ?_
  refine jk 1 (.d (.k2 (.i 10 (vi ((v3 + 1 : Nat) : Int)) .n))) ?_
  exact Vs.intro (sc [0] (by decide) (by kernel_rfl) (obRen_row eWindow_frz rfl .nil) rfl rfl) ⟨(v3 + 1), rfl, h⟩
 refine q5 ?_
 exact Vs.intro sy ⟨(), rfl, h⟩
set_option maxHeartbeats 1000000 in
theorem diary_schedule_2_ok (n : Nat) (a0 : List Window) (r : (List Int)) (h : diary_schedule_2 n a0 = some r) : FnL Try.prog 90 [.own 0 0 a0.length] [some (.row 2 (List.map eWindow a0))] (.own 1 0 ((List.replicate ((IntKind.u64.wrap ((IntKind.u64.wrap ((([(-1)] : List Int).length : Nat) : Int)) * (IntKind.u64.wrap ((a0.length : Nat) : Int)))).toNat) (0 : Int)).length)) [some (.row 2 (List.map eWindow a0)), some (.row 1 (List.map vi r))] := by
  dsimp only [diary_schedule_2] at h
  refine FnL.ofS (ts := [2]) Try.call90 Try.func90 rfl rfl (Nat.le_of_ble_eq_true rfl) (Nat.le_of_ble_eq_true rfl) (hall_of (.cons rfl .nil)) ?_
  show TriE _ _ _ _ _ (St.mk [(0, .own 0 0 a0.length)] [some (.row 2 (List.map eWindow a0))]) _
  refine TriE.seq ?_
  refine TriE.run [(0, .own 0 0 a0.length)] [some (.row 2 (List.map eWindow a0))] (by kernel_rfl) ?_
  refine TriE.seq ?_
  refine TriE.regJ ?_
  refine RegJ.run 3 [(0, .own 0 0 a0.length), (8, .own 1 0 1), (10, vi ((a0.length : Nat) : Int))] [some (.row 2 (List.map eWindow a0)), some (.row 1 [vi (-1)])] (by kernel_rfl) ?_
  refine bK h fun y1 hy1 h => ?_
  refine RegJ.op (Op1.call (y' := .own 2 0 ((List.replicate ((IntKind.u64.wrap ((IntKind.u64.wrap ((([(-1)] : List Int).length : Nat) : Int)) * (IntKind.u64.wrap ((a0.length : Nat) : Int)))).toNat) (0 : Int)).length)) (obx := [some (.row 1 [vi (-1)])]) (oby := [some (.row 1 (List.map vi ([(-1)] : List Int))), some (.row 1 (List.map vi y1))]) (ob2 := [some (.row 2 (List.map eWindow a0)), some (.row 1 (List.map vi ([(-1)] : List Int))), some (.row 1 (List.map vi y1))]) _ _ (cz (I0 11 (.call 116 [(.t 8), (.t 10)])) (by kernel_rfl)) rfl (slices_Repeat_int_ok n ([(-1)] : List Int) ((a0.length : Nat) : Int) y1 hy1) [1] (by kernel_rfl) (.cons rfl (.cons rfl (.cons rfl .nil))) (by kernel_rfl) (by kernel_rfl) (.same (row_ren vi_frz _ _ _) .nil) (by kernel_rfl) (.same (row_ren vi_frz _ _ _) (.same (row_ren vi_frz _ _ _) .nil)) (by kernel_rfl)) ?_
  refine jrd 1 [(0, .own 0 0 a0.length), (3, .own 2 0 ((List.replicate ((IntKind.u64.wrap ((IntKind.u64.wrap ((([(-1)] : List Int).length : Nat) : Int)) * (IntKind.u64.wrap ((a0.length : Nat) : Int)))).toNat) (0 : Int)).length))] [some (.row 2 (List.map eWindow a0)), some (.row 1 (List.map vi ([(-1)] : List Int))), some (.row 1 (List.map vi y1))] (by kernel_rfl) rfl ?_
  refine TriE.seqK h (fun (v16 : (List Int)) => St.mk [(3, .own 1 0 ((List.replicate ((IntKind.u64.wrap ((IntKind.u64.wrap ((([(-1)] : List Int).length : Nat) : Int)) * (IntKind.u64.wrap ((a0.length : Nat) : Int)))).toNat) (0 : Int)).length))] [some (.row 2 (List.map eWindow a0)), some (.row 1 (List.map vi v16))]) ?_ ?_
  · rintro v16 h
    show TriE _ _ _ _ _ (St.mk [(3, .own 1 0 ((List.replicate ((IntKind.u64.wrap ((IntKind.u64.wrap ((([(-1)] : List Int).length : Nat) : Int)) * (IntKind.u64.wrap ((a0.length : Nat) : Int)))).toNat) (0 : Int)).length))] [some (.row 2 (List.map eWindow a0)), some (.row 1 (List.map vi v16))]) _
    refine TriE.seq ?_
    refine TriE.run [(2, .own 1 0 ((List.replicate ((IntKind.u64.wrap ((IntKind.u64.wrap ((([(-1)] : List Int).length : Nat) : Int)) * (IntKind.u64.wrap ((a0.length : Nat) : Int)))).toNat) (0 : Int)).length))] [some (.row 2 (List.map eWindow a0)), some (.row 1 (List.map vi v16))] (by kernel_rfl) ?_
    refine TriE.ret ?_
    have h := Option.some.inj h
    subst h
    exact DoneS.ret (S' := ⟨[(2, .own 1 0 ((List.replicate ((IntKind.u64.wrap ((IntKind.u64.wrap ((([(-1)] : List Int).length : Nat) : Int)) * (IntKind.u64.wrap ((a0.length : Nat) : Int)))).toNat) (0 : Int)).length))], [some (.row 2 (List.map eWindow a0)), some (.row 1 (List.map vi v16))]⟩) Sees.refl rfl rfl
  intro k4 h
  refine TriE.seq ?_
  refine TriE.run [(0, .own 0 0 a0.length), (3, .own 2 0 ((List.replicate ((IntKind.u64.wrap ((IntKind.u64.wrap ((([(-1)] : List Int).length : Nat) : Int)) * (IntKind.u64.wrap ((a0.length : Nat) : Int)))).toNat) (0 : Int)).length)), (12, vi 0)] [some (.row 2 (List.map eWindow a0)), some (.row 1 (List.map vi ([(-1)] : List Int))), some (.row 1 (List.map vi y1))] (by kernel_rfl) ?_
  refine TriE.block ?_
  refine TriE.sees (S' := ⟨[(0, .own 0 0 a0.length), (3, .own 1 0 ((List.replicate ((IntKind.u64.wrap ((IntKind.u64.wrap ((([(-1)] : List Int).length : Nat) : Int)) * (IntKind.u64.wrap ((a0.length : Nat) : Int)))).toNat) (0 : Int)).length)), (12, vi ((0 : Nat) : Int))], [some (.row 2 (List.map eWindow a0)), some (.row 1 (List.map vi y1))]⟩) (sc [0, 2] (by decide) (by kernel_rfl) (obRen_row eWindow_frz rfl (obRen_row vi_frz rfl .nil)) rfl rfl) ?_
  refine TriE.loopN h (fun (t : Nat × (List Int)) => match t with | (v8, v9) => St.mk [(0, .own 0 0 a0.length), (3, .own 1 0 ((List.replicate ((IntKind.u64.wrap ((IntKind.u64.wrap ((([(-1)] : List Int).length : Nat) : Int)) * (IntKind.u64.wrap ((a0.length : Nat) : Int)))).toNat) (0 : Int)).length)), (12, vi ((v8 : Nat) : Int))] [some (.row 2 (List.map eWindow a0)), some (.row 1 (List.map vi v9))]) rfl ?_
  clear h
  rintro back ⟨v8, v9⟩ h
  dsimp only [diary_schedule_2_L2] at h
  show TriE _ _ _ _ _ (St.mk [(0, .own 0 0 a0.length), (3, .own 1 0 ((List.replicate ((IntKind.u64.wrap ((IntKind.u64.wrap ((([(-1)] : List Int).length : Nat) : Int)) * (IntKind.u64.wrap ((a0.length : Nat) : Int)))).toNat) (0 : Int)).length)), (12, vi ((v8 : Nat) : Int))] [some (.row 2 (List.map eWindow a0)), some (.row 1 (List.map vi v9))]) _
  refine TriE.seq ?_
  refine TriE.regJ ?_
  refine jv (vb (decide (v8 < 1000))) (cz (I0 13 (.bin .lss false (.t 12) (.c (.p (.int .i64 1000))))) (by kernel_rfl)) (n_lss (i := v8) (j := 1000) rfl rfl) rfl ?_
  refine jd [(0, .own 0 0 a0.length), (3, .own 1 0 ((List.replicate ((IntKind.u64.wrap ((IntKind.u64.wrap ((([(-1)] : List Int).length : Nat) : Int)) * (IntKind.u64.wrap ((a0.length : Nat) : Int)))).toNat) (0 : Int)).length)), (12, vi ((v8 : Nat) : Int)), (13, vb (decide (v8 < 1000)))] (by kernel_rfl) rfl ?_
  refine TriE.seq ?_
  refine TriE.cond (b := decide (v8 < 1000)) rfl (fun c1 => ?_) (fun c1 => ?_)
  · have h := cond_t h c1
    refine TriE.skip ?_
    refine TriE.seqK h (fun (v15 : (List Int)) => St.mk [(0, .own 0 0 a0.length), (3, .own 1 0 ((List.replicate ((IntKind.u64.wrap ((IntKind.u64.wrap ((([(-1)] : List Int).length : Nat) : Int)) * (IntKind.u64.wrap ((a0.length : Nat) : Int)))).toNat) (0 : Int)).length)), (12, vi ((v8 : Nat) : Int))] [some (.row 2 (List.map eWindow a0)), some (.row 1 (List.map vi v15))]) ?_ ?_
    · rintro v15 h
      show TriE _ _ _ _ _ (St.mk [(0, .own 0 0 a0.length), (3, .own 1 0 ((List.replicate ((IntKind.u64.wrap ((IntKind.u64.wrap ((([(-1)] : List Int).length : Nat) : Int)) * (IntKind.u64.wrap ((a0.length : Nat) : Int)))).toNat) (0 : Int)).length)), (12, vi ((v8 : Nat) : Int))] [some (.row 2 (List.map eWindow a0)), some (.row 1 (List.map vi v15))]) _
      refine TriE.regJ ?_
      refine cK h fun c12 h => ?_
      refine jv (vi ((v8 + 1 : Nat) : Int)) (cz (I0 61 (.bin .add false (.t 12) (.c (.p (.int .i64 1))))) (by kernel_rfl)) (r_addn (i := v8) (j := 1) rfl rfl c12) rfl ?_
      refine jrd 1 [(0, .own 0 0 a0.length), (3, .own 1 0 ((List.replicate ((IntKind.u64.wrap ((IntKind.u64.wrap ((([(-1)] : List Int).length : Nat) : Int)) * (IntKind.u64.wrap ((a0.length : Nat) : Int)))).toNat) (0 : Int)).length)), (12, vi ((v8 + 1 : Nat) : Int))] [some (.row 2 (List.map eWindow a0)), some (.row 1 (List.map vi v15))] (by kernel_rfl) rfl ?_
      exact Vs.intro (sl (by kernel_rfl)) ⟨(v8 + 1, v15), rfl, h⟩
    intro k3 h
    refine TriE.block ?_
    refine TriE.seq ?_
    refine TriE.run [(0, .own 0 0 a0.length), (3, .own 1 0 ((List.replicate ((IntKind.u64.wrap ((IntKind.u64.wrap ((([(-1)] : List Int).length : Nat) : Int)) * (IntKind.u64.wrap ((a0.length : Nat) : Int)))).toNat) (0 : Int)).length)), (12, vi ((v8 : Nat) : Int)), (4, vi ((v8 : Nat) : Int))] [some (.row 2 (List.map eWindow a0)), some (.row 1 (List.map vi v9))] (by kernel_rfl) ?_
    refine TriE.seq ?_
    refine TriE.run [(0, .own 0 0 a0.length), (3, .own 1 0 ((List.replicate ((IntKind.u64.wrap ((IntKind.u64.wrap ((([(-1)] : List Int).length : Nat) : Int)) * (IntKind.u64.wrap ((a0.length : Nat) : Int)))).toNat) (0 : Int)).length)), (12, vi ((v8 : Nat) : Int)), (4, vi ((v8 : Nat) : Int)), (5, vi (-1))] [some (.row 2 (List.map eWindow a0)), some (.row 1 (List.map vi v9))] (by kernel_rfl) ?_
    refine TriE.seqK h (fun (v14 : Int) => St.mk [(0, .own 0 0 a0.length), (3, .own 1 0 ((List.replicate ((IntKind.u64.wrap ((IntKind.u64.wrap ((([(-1)] : List Int).length : Nat) : Int)) * (IntKind.u64.wrap ((a0.length : Nat) : Int)))).toNat) (0 : Int)).length)), (12, vi ((v8 : Nat) : Int)), (4, vi ((v8 : Nat) : Int)), (5, vi v14)] [some (.row 2 (List.map eWindow a0)), some (.row 1 (List.map vi v9))]) ?_ ?_
    · rintro v14 h
      show TriE _ _ _ _ _ (St.mk [(0, .own 0 0 a0.length), (3, .own 1 0 ((List.replicate ((IntKind.u64.wrap ((IntKind.u64.wrap ((([(-1)] : List Int).length : Nat) : Int)) * (IntKind.u64.wrap ((a0.length : Nat) : Int)))).toNat) (0 : Int)).length)), (12, vi ((v8 : Nat) : Int)), (4, vi ((v8 : Nat) : Int)), (5, vi v14)] [some (.row 2 (List.map eWindow a0)), some (.row 1 (List.map vi v9))]) _
      refine TriE.seq ?_
      refine TriE.run [(0, .own 0 0 a0.length), (3, .own 1 0 ((List.replicate ((IntKind.u64.wrap ((IntKind.u64.wrap ((([(-1)] : List Int).length : Nat) : Int)) * (IntKind.u64.wrap ((a0.length : Nat) : Int)))).toNat) (0 : Int)).length)), (12, vi ((v8 : Nat) : Int)), (4, vi ((v8 : Nat) : Int)), (5, vi v14), (56, vb (decide ((0 : Int) ≤ v14)))] [some (.row 2 (List.map eWindow a0)), some (.row 1 (List.map vi v9))] (by kernel_rfl) ?_
      refine TriE.cond (b := decide ((0 : Int) ≤ v14)) rfl (fun c9 => ?_) (fun c9 => ?_)
      · have h := cond_t h c9
        refine TriE.regJ ?_
        refine RegJ.run 3 [(0, .own 0 0 a0.length), (3, .own 1 0 ((List.replicate ((IntKind.u64.wrap ((IntKind.u64.wrap ((([(-1)] : List Int).length : Nat) : Int)) * (IntKind.u64.wrap ((a0.length : Nat) : Int)))).toNat) (0 : Int)).length)), (12, vi ((v8 : Nat) : Int)), (57, .own 1 0 ((List.replicate ((IntKind.u64.wrap ((IntKind.u64.wrap ((([(-1)] : List Int).length : Nat) : Int)) * (IntKind.u64.wrap ((a0.length : Nat) : Int)))).toNat) (0 : Int)).length)), (58, vi v14), (59, vi ((v8 : Nat) : Int))] [some (.row 2 (List.map eWindow a0)), some (.row 1 (List.map vi v9))] (by kernel_rfl) ?_
        refine cK h fun c10 h => ?_
        refine jv (.ptr 1 v14.toNat 0) (cz (I0 60 (.iaddr 1 (.t 57) (.t 58))) (by kernel_rfl)) (ok_iaddr_o0 (j := v14.toNat) rfl rfl rfl (inB_to c10) (inB_lt c10)) rfl ?_
        refine cK h fun c11 h => ?_
        refine je (.undef) [some (.row 2 (List.map eWindow a0)), some (.row 1 (List.map vi (List.set v9 v14.toNat ((v8 : Nat) : Int))))] (cz (IN (.store 1 (.t 60) (.t 59))) (by kernel_rfl)) (ok_store_m (l := v9) (e := vi) (x' := ((v8 : Nat) : Int)) (u := vi ((v8 : Nat) : Int)) rfl rfl rfl c11 rfl rfl) rfl rfl rfl ?_
        refine jd [(0, .own 0 0 a0.length), (3, .own 1 0 ((List.replicate ((IntKind.u64.wrap ((IntKind.u64.wrap ((([(-1)] : List Int).length : Nat) : Int)) * (IntKind.u64.wrap ((a0.length : Nat) : Int)))).toNat) (0 : Int)).length)), (12, vi ((v8 : Nat) : Int))] (by kernel_rfl) rfl ?_
        exact Vs.intro Sees.refl ⟨(List.set v9 v14.toNat ((v8 : Nat) : Int)), rfl, h⟩
      have h := cond_f h c9
      refine TriE.skip ?_
      exact Vs.intro (sl (by kernel_rfl)) ⟨v9, rfl, h⟩
    intro k2 h
    refine TriE.seq ?_
    refine TriE.run [(0, .own 0 0 a0.length), (3, .own 1 0 ((List.replicate ((IntKind.u64.wrap ((IntKind.u64.wrap ((([(-1)] : List Int).length : Nat) : Int)) * (IntKind.u64.wrap ((a0.length : Nat) : Int)))).toNat) (0 : Int)).length)), (12, vi ((v8 : Nat) : Int)), (4, vi ((v8 : Nat) : Int)), (5, vi (-1)), (15, .own 0 0 a0.length), (16, vi ((a0.length : Nat) : Int)), (17, vi 0)] [some (.row 2 (List.map eWindow a0)), some (.row 1 (List.map vi v9))] (by kernel_rfl) ?_
    refine TriE.block ?_
    refine TriE.sees (S' := ⟨[(0, .own 0 0 a0.length), (3, .own 1 0 ((List.replicate ((IntKind.u64.wrap ((IntKind.u64.wrap ((([(-1)] : List Int).length : Nat) : Int)) * (IntKind.u64.wrap ((a0.length : Nat) : Int)))).toNat) (0 : Int)).length)), (12, vi ((v8 : Nat) : Int)), (4, vi ((v8 : Nat) : Int)), (5, vi (-1)), (15, .own 0 0 a0.length), (16, vi ((a0.length : Nat) : Int)), (17, vi ((0 : Nat) : Int))], [some (.row 2 (List.map eWindow a0)), some (.row 1 (List.map vi v9))]⟩) (sl (by kernel_rfl)) ?_
    refine TriE.loopN h (fun (t : Int × Nat) => match t with | (v11, v12) => St.mk [(0, .own 0 0 a0.length), (3, .own 1 0 ((List.replicate ((IntKind.u64.wrap ((IntKind.u64.wrap ((([(-1)] : List Int).length : Nat) : Int)) * (IntKind.u64.wrap ((a0.length : Nat) : Int)))).toNat) (0 : Int)).length)), (12, vi ((v8 : Nat) : Int)), (4, vi ((v8 : Nat) : Int)), (5, vi v11), (15, .own 0 0 a0.length), (16, vi ((a0.length : Nat) : Int)), (17, vi ((v12 : Nat) : Int))] [some (.row 2 (List.map eWindow a0)), some (.row 1 (List.map vi v9))]) rfl ?_
    clear h
    rintro back ⟨v11, v12⟩ h
    dsimp only [diary_schedule_2_L1] at h
    show TriE _ _ _ _ _ (St.mk [(0, .own 0 0 a0.length), (3, .own 1 0 ((List.replicate ((IntKind.u64.wrap ((IntKind.u64.wrap ((([(-1)] : List Int).length : Nat) : Int)) * (IntKind.u64.wrap ((a0.length : Nat) : Int)))).toNat) (0 : Int)).length)), (12, vi ((v8 : Nat) : Int)), (4, vi ((v8 : Nat) : Int)), (5, vi v11), (15, .own 0 0 a0.length), (16, vi ((a0.length : Nat) : Int)), (17, vi ((v12 : Nat) : Int))] [some (.row 2 (List.map eWindow a0)), some (.row 1 (List.map vi v9))]) _
    refine TriE.seq ?_
    refine TriE.regJ ?_
    refine jv (vb (decide (v12 < a0.length))) (cz (I0 18 (.bin .lss false (.t 17) (.t 16))) (by kernel_rfl)) (n_lss (i := v12) (j := a0.length) rfl rfl) rfl ?_
    refine jd [(0, .own 0 0 a0.length), (3, .own 1 0 ((List.replicate ((IntKind.u64.wrap ((IntKind.u64.wrap ((([(-1)] : List Int).length : Nat) : Int)) * (IntKind.u64.wrap ((a0.length : Nat) : Int)))).toNat) (0 : Int)).length)), (12, vi ((v8 : Nat) : Int)), (4, vi ((v8 : Nat) : Int)), (5, vi v11), (15, .own 0 0 a0.length), (16, vi ((a0.length : Nat) : Int)), (17, vi ((v12 : Nat) : Int)), (18, vb (decide (v12 < a0.length)))] (by kernel_rfl) rfl ?_
    refine TriE.seq ?_
    refine TriE.cond (b := decide (v12 < a0.length)) rfl (fun c2 => ?_) (fun c2 => ?_)
    · have h := cond_t h c2
      refine TriE.skip ?_
      refine TriE.seqK h (fun (v13 : Int) => St.mk [(0, .own 0 0 a0.length), (3, .own 1 0 ((List.replicate ((IntKind.u64.wrap ((IntKind.u64.wrap ((([(-1)] : List Int).length : Nat) : Int)) * (IntKind.u64.wrap ((a0.length : Nat) : Int)))).toNat) (0 : Int)).length)), (12, vi ((v8 : Nat) : Int)), (4, vi ((v8 : Nat) : Int)), (15, .own 0 0 a0.length), (16, vi ((a0.length : Nat) : Int)), (17, vi ((v12 : Nat) : Int)), (5, vi v13)] [some (.row 2 (List.map eWindow a0)), some (.row 1 (List.map vi v9))]) ?_ ?_
      · rintro v13 h
        show TriE _ _ _ _ _ (St.mk [(0, .own 0 0 a0.length), (3, .own 1 0 ((List.replicate ((IntKind.u64.wrap ((IntKind.u64.wrap ((([(-1)] : List Int).length : Nat) : Int)) * (IntKind.u64.wrap ((a0.length : Nat) : Int)))).toNat) (0 : Int)).length)), (12, vi ((v8 : Nat) : Int)), (4, vi ((v8 : Nat) : Int)), (15, .own 0 0 a0.length), (16, vi ((a0.length : Nat) : Int)), (17, vi ((v12 : Nat) : Int)), (5, vi v13)] [some (.row 2 (List.map eWindow a0)), some (.row 1 (List.map vi v9))]) _
        refine TriE.regJ ?_
        refine cK h fun c8 h => ?_
        refine jv (vi ((v12 + 1 : Nat) : Int)) (cz (I0 54 (.bin .add false (.t 17) (.c (.p (.int .i64 1))))) (by kernel_rfl)) (r_addn (i := v12) (j := 1) rfl rfl c8) rfl ?_
        refine jrd 1 [(0, .own 0 0 a0.length), (3, .own 1 0 ((List.replicate ((IntKind.u64.wrap ((IntKind.u64.wrap ((([(-1)] : List Int).length : Nat) : Int)) * (IntKind.u64.wrap ((a0.length : Nat) : Int)))).toNat) (0 : Int)).length)), (12, vi ((v8 : Nat) : Int)), (4, vi ((v8 : Nat) : Int)), (15, .own 0 0 a0.length), (16, vi ((a0.length : Nat) : Int)), (5, vi v13), (17, vi ((v12 + 1 : Nat) : Int))] [some (.row 2 (List.map eWindow a0)), some (.row 1 (List.map vi v9))] (by kernel_rfl) rfl ?_
        exact Vs.intro (sl (by kernel_rfl)) ⟨(v13, v12 + 1), rfl, h⟩
      intro k1 h
      refine TriE.block ?_
      refine TriE.seq ?_
      refine TriE.regJ ?_
      refine RegJ.run 1 [(0, .own 0 0 a0.length), (3, .own 1 0 ((List.replicate ((IntKind.u64.wrap ((IntKind.u64.wrap ((([(-1)] : List Int).length : Nat) : Int)) * (IntKind.u64.wrap ((a0.length : Nat) : Int)))).toNat) (0 : Int)).length)), (12, vi ((v8 : Nat) : Int)), (4, vi ((v8 : Nat) : Int)), (5, vi v11), (15, .own 0 0 a0.length), (16, vi ((a0.length : Nat) : Int)), (17, vi ((v12 : Nat) : Int)), (19, vi ((v12 : Nat) : Int))] [some (.row 2 (List.map eWindow a0)), some (.row 1 (List.map vi v9))] (by kernel_rfl) ?_
      refine jv (.ptr 0 v12 0) (cz (I0 20 (.iaddr 2 (.t 15) (.t 17))) (by kernel_rfl)) (ok_iaddr_o0 (j := v12) rfl rfl rfl rfl c2) rfl ?_
      refine jv (.agg [vi ((ix a0 v12).From), vi ((ix a0 v12).To)]) (cz (I0 21 (.load true 2 (.t 20))) (by kernel_rfl)) (ok_load_pm (l := a0) (e := eWindow) (v := .agg [vi ((ix a0 v12).From), vi ((ix a0 v12).To)]) rfl rfl c2 rfl) rfl ?_
      refine jrd 3 [(0, .own 0 0 a0.length), (3, .own 1 0 ((List.replicate ((IntKind.u64.wrap ((IntKind.u64.wrap ((([(-1)] : List Int).length : Nat) : Int)) * (IntKind.u64.wrap ((a0.length : Nat) : Int)))).toNat) (0 : Int)).length)), (12, vi ((v8 : Nat) : Int)), (4, vi ((v8 : Nat) : Int)), (5, vi v11), (15, .own 0 0 a0.length), (16, vi ((a0.length : Nat) : Int)), (17, vi ((v12 : Nat) : Int)), (7, .ptr 2 0 0), (6, vi ((v12 : Nat) : Int))] [some (.row 2 (List.map eWindow a0)), some (.row 1 (List.map vi v9)), some (.row 2 [.agg [vi ((ix a0 v12).From), vi ((ix a0 v12).To)]])] (by kernel_rfl) rfl ?_
      refine TriE.seq ?_
      refine TriE.sees (Sees.less (fr' := [(0, .own 0 0 a0.length), (3, .own 1 0 ((List.replicate ((IntKind.u64.wrap ((IntKind.u64.wrap ((([(-1)] : List Int).length : Nat) : Int)) * (IntKind.u64.wrap ((a0.length : Nat) : Int)))).toNat) (0 : Int)).length)), (12, vi ((v8 : Nat) : Int)), (4, vi ((v8 : Nat) : Int)), (5, vi v11), (15, .own 0 0 a0.length), (16, vi ((a0.length : Nat) : Int)), (17, vi ((v12 : Nat) : Int)), (7, .ptr 2 0 0), (6, vi ((v12 : Nat) : Int))]) (.cons rfl (.cons rfl (.cons rfl (.cons rfl (.cons rfl (.cons rfl (.cons rfl (.cons rfl (.cons rfl (.cons rfl .nil))))))))))) ?_
      refine TriE.draw (by kernel_rfl) ?_
      refine RegD.run 2 [(23, vi ((v12 : Nat) : Int)), (22, .own 1 0 ((List.replicate ((IntKind.u64.wrap ((IntKind.u64.wrap ((([(-1)] : List Int).length : Nat) : Int)) * (IntKind.u64.wrap ((a0.length : Nat) : Int)))).toNat) (0 : Int)).length)), (0, .own 0 0 a0.length), (3, .own 1 0 ((List.replicate ((IntKind.u64.wrap ((IntKind.u64.wrap ((([(-1)] : List Int).length : Nat) : Int)) * (IntKind.u64.wrap ((a0.length : Nat) : Int)))).toNat) (0 : Int)).length)), (12, vi ((v8 : Nat) : Int)), (4, vi ((v8 : Nat) : Int)), (5, vi v11), (15, .own 0 0 a0.length), (16, vi ((a0.length : Nat) : Int)), (17, vi ((v12 : Nat) : Int)), (7, .ptr 2 0 0), (6, vi ((v12 : Nat) : Int))] [some (.row 2 (List.map eWindow a0)), some (.row 1 (List.map vi v9)), some (.row 2 [.agg [vi ((ix a0 v12).From), vi ((ix a0 v12).To)]]), none, none] (by kernel_rfl) ?_
      refine cK h fun c3 h => ?_
      refine dv (.ptr 1 v12 0) (cz (I0 24 (.iaddr 1 (.t 22) (.t 23))) (by kernel_rfl)) (ok_iaddr_o0 (j := v12) rfl rfl rfl rfl c3) rfl ?_
      refine cK h fun c4 h => ?_
      refine dv (vi (ix v9 v12)) (cz (I0 25 (.load false 1 (.t 24))) (by kernel_rfl)) (ok_load_pm (l := v9) (e := vi) (v := vi (ix v9 v12)) rfl rfl c4 rfl) rfl ?_
      refine RegD.run 2 [(27, vb (decide ((ix v9 v12) < (0 : Int)))), (26, vb (decide ((ix v9 v12) < (0 : Int)))), (25, vi (ix v9 v12)), (24, .ptr 1 v12 0), (23, vi ((v12 : Nat) : Int)), (22, .own 1 0 ((List.replicate ((IntKind.u64.wrap ((IntKind.u64.wrap ((([(-1)] : List Int).length : Nat) : Int)) * (IntKind.u64.wrap ((a0.length : Nat) : Int)))).toNat) (0 : Int)).length)), (0, .own 0 0 a0.length), (3, .own 1 0 ((List.replicate ((IntKind.u64.wrap ((IntKind.u64.wrap ((([(-1)] : List Int).length : Nat) : Int)) * (IntKind.u64.wrap ((a0.length : Nat) : Int)))).toNat) (0 : Int)).length)), (12, vi ((v8 : Nat) : Int)), (4, vi ((v8 : Nat) : Int)), (5, vi v11), (15, .own 0 0 a0.length), (16, vi ((a0.length : Nat) : Int)), (17, vi ((v12 : Nat) : Int)), (7, .ptr 2 0 0), (6, vi ((v12 : Nat) : Int))] [some (.row 2 (List.map eWindow a0)), some (.row 1 (List.map vi v9)), some (.row 2 [.agg [vi ((ix a0 v12).From), vi ((ix a0 v12).To)]]), none, none, none, none, none, none] (by kernel_rfl) ?_
      refine RegD.op (OpD.valk (g := decide ((ix v9 v12) < (0 : Int))) (v := .ptr 2 0 0) _ _ (cz (IG 28 (.faddr 0 (.t 7)) 27 true) (by kernel_rfl)) rfl (by kernel_rfl) (fun hg => (.cons rfl .nil))) ?_
      refine RegD.op (OpD.valk (g := decide ((ix v9 v12) < (0 : Int))) (v := vi ((ix a0 v12).From)) _ _ (cz (IG 29 (.load false 1 (.t 28)) 27 true) (by kernel_rfl)) rfl (by kernel_rfl) (fun hg => (.cons hg .nil))) ?_
      refine RegD.op (OpD.valk (g := decide ((ix v9 v12) < (0 : Int))) (v := vi ((v8 : Nat) : Int)) _ _ (cz (IG 30 (.mov (.t 4)) 27 true) (by kernel_rfl)) rfl (by kernel_rfl) (fun hg => (.cons rfl .nil))) ?_
      refine RegD.op (OpD.valk (g := decide ((ix v9 v12) < (0 : Int))) (v := vb (decide (((ix a0 v12).From) ≤ ((v8 : Nat) : Int)))) _ _ (cz (IG 31 (.bin .leq false (.t 29) (.t 30)) 27 true) (by kernel_rfl)) rfl (by kernel_rfl) (fun hg => (.cons hg (.cons hg .nil)))) ?_
      refine RegD.op (OpD.and (cz (I0 32 (.pick (.t 27) (.t 31) (.c (.p (.bool false))))) (by kernel_rfl)) rfl rfl (by first | exact hokA1 | exact hokA0 | simp)) ?_
      refine RegD.run 1 [(33, vb ((decide ((ix v9 v12) < (0 : Int))) && (decide (((ix a0 v12).From) ≤ ((v8 : Nat) : Int))))), (32, vb ((decide ((ix v9 v12) < (0 : Int))) && (decide (((ix a0 v12).From) ≤ ((v8 : Nat) : Int))))), (31, .cond (decide ((ix v9 v12) < (0 : Int))) (vb (decide (((ix a0 v12).From) ≤ ((v8 : Nat) : Int))))), (30, .cond (decide ((ix v9 v12) < (0 : Int))) (vi ((v8 : Nat) : Int))), (29, .cond (decide ((ix v9 v12) < (0 : Int))) (vi ((ix a0 v12).From))), (28, .cond (decide ((ix v9 v12) < (0 : Int))) (.ptr 2 0 0)), (27, vb (decide ((ix v9 v12) < (0 : Int)))), (26, vb (decide ((ix v9 v12) < (0 : Int)))), (25, vi (ix v9 v12)), (24, .ptr 1 v12 0), (23, vi ((v12 : Nat) : Int)), (22, .own 1 0 ((List.replicate ((IntKind.u64.wrap ((IntKind.u64.wrap ((([(-1)] : List Int).length : Nat) : Int)) * (IntKind.u64.wrap ((a0.length : Nat) : Int)))).toNat) (0 : Int)).length)), (0, .own 0 0 a0.length), (3, .own 1 0 ((List.replicate ((IntKind.u64.wrap ((IntKind.u64.wrap ((([(-1)] : List Int).length : Nat) : Int)) * (IntKind.u64.wrap ((a0.length : Nat) : Int)))).toNat) (0 : Int)).length)), (12, vi ((v8 : Nat) : Int)), (4, vi ((v8 : Nat) : Int)), (5, vi v11), (15, .own 0 0 a0.length), (16, vi ((a0.length : Nat) : Int)), (17, vi ((v12 : Nat) : Int)), (7, .ptr 2 0 0), (6, vi ((v12 : Nat) : Int))] [some (.row 2 (List.map eWindow a0)), some (.row 1 (List.map vi v9)), some (.row 2 [.agg [vi ((ix a0 v12).From), vi ((ix a0 v12).To)]]), none, none, none, none, none, none, none, none, none, none, none, none] (by kernel_rfl) ?_
      refine RegD.op (OpD.valk (g := (decide ((ix v9 v12) < (0 : Int))) && (decide (((ix a0 v12).From) ≤ ((v8 : Nat) : Int)))) (v := vi ((v8 : Nat) : Int)) _ _ (cz (IG 34 (.mov (.t 4)) 33 true) (by kernel_rfl)) rfl (by kernel_rfl) (fun hg => (.cons rfl .nil))) ?_
      refine RegD.op (OpD.valk (g := (decide ((ix v9 v12) < (0 : Int))) && (decide (((ix a0 v12).From) ≤ ((v8 : Nat) : Int)))) (v := .ptr 2 0 1) _ _ (cz (IG 35 (.faddr 1 (.t 7)) 33 true) (by kernel_rfl)) rfl (by kernel_rfl) (fun hg => (.cons rfl .nil))) ?_
      refine RegD.op (OpD.valk (g := (decide ((ix v9 v12) < (0 : Int))) && (decide (((ix a0 v12).From) ≤ ((v8 : Nat) : Int)))) (v := vi ((ix a0 v12).To)) _ _ (cz (IG 36 (.load false 1 (.t 35)) 33 true) (by kernel_rfl)) rfl (by kernel_rfl) (fun hg => (.cons hg .nil))) ?_
      refine RegD.op (OpD.valk (g := (decide ((ix v9 v12) < (0 : Int))) && (decide (((ix a0 v12).From) ≤ ((v8 : Nat) : Int)))) (v := vb (decide (((v8 : Nat) : Int) < ((ix a0 v12).To)))) _ _ (cz (IG 37 (.bin .lss false (.t 34) (.t 36)) 33 true) (by kernel_rfl)) rfl (by kernel_rfl) (fun hg => (.cons hg (.cons hg .nil)))) ?_
      refine RegD.op (OpD.and (cz (I0 38 (.pick (.t 33) (.t 37) (.c (.p (.bool false))))) (by kernel_rfl)) rfl rfl (by first | exact hokA1 | exact hokA0 | simp)) ?_
      refine RegD.run 1 [(39, vb (((decide ((ix v9 v12) < (0 : Int))) && (decide (((ix a0 v12).From) ≤ ((v8 : Nat) : Int)))) && (decide (((v8 : Nat) : Int) < ((ix a0 v12).To))))), (38, vb (((decide ((ix v9 v12) < (0 : Int))) && (decide (((ix a0 v12).From) ≤ ((v8 : Nat) : Int)))) && (decide (((v8 : Nat) : Int) < ((ix a0 v12).To))))), (37, .cond ((decide ((ix v9 v12) < (0 : Int))) && (decide (((ix a0 v12).From) ≤ ((v8 : Nat) : Int)))) (vb (decide (((v8 : Nat) : Int) < ((ix a0 v12).To))))), (36, .cond ((decide ((ix v9 v12) < (0 : Int))) && (decide (((ix a0 v12).From) ≤ ((v8 : Nat) : Int)))) (vi ((ix a0 v12).To))), (35, .cond ((decide ((ix v9 v12) < (0 : Int))) && (decide (((ix a0 v12).From) ≤ ((v8 : Nat) : Int)))) (.ptr 2 0 1)), (34, .cond ((decide ((ix v9 v12) < (0 : Int))) && (decide (((ix a0 v12).From) ≤ ((v8 : Nat) : Int)))) (vi ((v8 : Nat) : Int))), (33, vb ((decide ((ix v9 v12) < (0 : Int))) && (decide (((ix a0 v12).From) ≤ ((v8 : Nat) : Int))))), (32, vb ((decide ((ix v9 v12) < (0 : Int))) && (decide (((ix a0 v12).From) ≤ ((v8 : Nat) : Int))))), (31, .cond (decide ((ix v9 v12) < (0 : Int))) (vb (decide (((ix a0 v12).From) ≤ ((v8 : Nat) : Int))))), (30, .cond (decide ((ix v9 v12) < (0 : Int))) (vi ((v8 : Nat) : Int))), (29, .cond (decide ((ix v9 v12) < (0 : Int))) (vi ((ix a0 v12).From))), (28, .cond (decide ((ix v9 v12) < (0 : Int))) (.ptr 2 0 0)), (27, vb (decide ((ix v9 v12) < (0 : Int)))), (26, vb (decide ((ix v9 v12) < (0 : Int)))), (25, vi (ix v9 v12)), (24, .ptr 1 v12 0), (23, vi ((v12 : Nat) : Int)), (22, .own 1 0 ((List.replicate ((IntKind.u64.wrap ((IntKind.u64.wrap ((([(-1)] : List Int).length : Nat) : Int)) * (IntKind.u64.wrap ((a0.length : Nat) : Int)))).toNat) (0 : Int)).length)), (0, .own 0 0 a0.length), (3, .own 1 0 ((List.replicate ((IntKind.u64.wrap ((IntKind.u64.wrap ((([(-1)] : List Int).length : Nat) : Int)) * (IntKind.u64.wrap ((a0.length : Nat) : Int)))).toNat) (0 : Int)).length)), (12, vi ((v8 : Nat) : Int)), (4, vi ((v8 : Nat) : Int)), (5, vi v11), (15, .own 0 0 a0.length), (16, vi ((a0.length : Nat) : Int)), (17, vi ((v12 : Nat) : Int)), (7, .ptr 2 0 0), (6, vi ((v12 : Nat) : Int))] [some (.row 2 (List.map eWindow a0)), some (.row 1 (List.map vi v9)), some (.row 2 [.agg [vi ((ix a0 v12).From), vi ((ix a0 v12).To)]]), none, none, none, none, none, none, none, none, none, none, none, none, none, none, none, none, none, none] (by kernel_rfl) ?_
      refine RegD.op (OpD.valk (g := ((decide ((ix v9 v12) < (0 : Int))) && (decide (((ix a0 v12).From) ≤ ((v8 : Nat) : Int)))) && (decide (((v8 : Nat) : Int) < ((ix a0 v12).To)))) (v := vi v11) _ _ (cz (IG 40 (.mov (.t 5)) 39 true) (by kernel_rfl)) rfl (by kernel_rfl) (fun hg => (.cons rfl .nil))) ?_
      refine RegD.op (OpD.valk (g := ((decide ((ix v9 v12) < (0 : Int))) && (decide (((ix a0 v12).From) ≤ ((v8 : Nat) : Int)))) && (decide (((v8 : Nat) : Int) < ((ix a0 v12).To)))) (v := vb (decide (v11 < (0 : Int)))) _ _ (cz (IG 41 (.bin .lss false (.t 40) (.c (.p (.int .i64 0)))) 39 true) (by kernel_rfl)) rfl (by kernel_rfl) (fun hg => (.cons hg (.cons rfl .nil)))) ?_
      refine RegD.op (OpD.valk (g := ((decide ((ix v9 v12) < (0 : Int))) && (decide (((ix a0 v12).From) ≤ ((v8 : Nat) : Int)))) && (decide (((v8 : Nat) : Int) < ((ix a0 v12).To)))) (v := vb (decide (v11 < (0 : Int)))) _ _ (cz (IG 42 (.mov (.t 41)) 39 true) (by kernel_rfl)) rfl (by kernel_rfl) (fun hg => (.cons hg .nil))) ?_
      refine RegD.op (OpD.valk (g := (((decide ((ix v9 v12) < (0 : Int))) && (decide (((ix a0 v12).From) ≤ ((v8 : Nat) : Int)))) && (decide (((v8 : Nat) : Int) < ((ix a0 v12).To)))) && !(decide (v11 < (0 : Int)))) (v := .ptr 2 0 1) _ _ (cz (IG 43 (.faddr 1 (.t 7)) 42 false) (by kernel_rfl)) rfl (by kernel_rfl) (fun hg => (.cons rfl .nil))) ?_
      refine RegD.op (OpD.valk (g := (((decide ((ix v9 v12) < (0 : Int))) && (decide (((ix a0 v12).From) ≤ ((v8 : Nat) : Int)))) && (decide (((v8 : Nat) : Int) < ((ix a0 v12).To)))) && !(decide (v11 < (0 : Int)))) (v := vi ((ix a0 v12).To)) _ _ (cz (IG 44 (.load false 1 (.t 43)) 42 false) (by kernel_rfl)) rfl (by kernel_rfl) (fun hg => (.cons hg .nil))) ?_
      refine RegD.op (OpD.valk (g := (((decide ((ix v9 v12) < (0 : Int))) && (decide (((ix a0 v12).From) ≤ ((v8 : Nat) : Int)))) && (decide (((v8 : Nat) : Int) < ((ix a0 v12).To)))) && !(decide (v11 < (0 : Int)))) (v := .own 0 0 a0.length) _ _ (cz (IG 45 (.mov (.t 0)) 42 false) (by kernel_rfl)) rfl (by kernel_rfl) (fun hg => (.cons rfl .nil))) ?_
      refine RegD.op (OpD.valk (g := (((decide ((ix v9 v12) < (0 : Int))) && (decide (((ix a0 v12).From) ≤ ((v8 : Nat) : Int)))) && (decide (((v8 : Nat) : Int) < ((ix a0 v12).To)))) && !(decide (v11 < (0 : Int)))) (v := vi v11) _ _ (cz (IG 46 (.mov (.t 5)) 42 false) (by kernel_rfl)) rfl (by kernel_rfl) (fun hg => (.cons rfl .nil))) ?_
      refine cK h fun c5 h => ?_
      refine RegD.op (OpD.valg (g := (((decide ((ix v9 v12) < (0 : Int))) && (decide (((ix a0 v12).From) ≤ ((v8 : Nat) : Int)))) && (decide (((v8 : Nat) : Int) < ((ix a0 v12).To)))) && !(decide (v11 < (0 : Int)))) (v := .ptr 0 v11.toNat 0) _ _ (cz (IG 47 (.iaddr 2 (.t 45) (.t 46)) 42 false) (by kernel_rfl)) rfl (fun hg => (ok_iaddr_o0 (j := v11.toNat) rfl rfl rfl (inB_to (gor c5 hg)) (inB_lt (gor c5 hg)))) (fun hg => (.cons hg (.cons hg .nil)))) ?_
      refine RegD.op (OpD.valk (g := (((decide ((ix v9 v12) < (0 : Int))) && (decide (((ix a0 v12).From) ≤ ((v8 : Nat) : Int)))) && (decide (((v8 : Nat) : Int) < ((ix a0 v12).To)))) && !(decide (v11 < (0 : Int)))) (v := .ptr 0 v11.toNat 1) _ _ (cz (IG 48 (.faddr 1 (.t 47)) 42 false) (by kernel_rfl)) rfl (by kernel_rfl) (fun hg => (.cons hg .nil))) ?_
      refine cK h fun c6 h => ?_
      refine RegD.op (OpD.valg (g := (((decide ((ix v9 v12) < (0 : Int))) && (decide (((ix a0 v12).From) ≤ ((v8 : Nat) : Int)))) && (decide (((v8 : Nat) : Int) < ((ix a0 v12).To)))) && !(decide (v11 < (0 : Int)))) (v := vi ((ix a0 v11.toNat).To)) _ _ (cz (IG 49 (.load false 1 (.t 48)) 42 false) (by kernel_rfl)) rfl (fun hg => (ok_load_pm (l := a0) (e := eWindow) (v := vi ((ix a0 v11.toNat).To)) rfl rfl (gor c6 hg) rfl)) (fun hg => (.cons hg .nil))) ?_
      refine RegD.op (OpD.valk (g := (((decide ((ix v9 v12) < (0 : Int))) && (decide (((ix a0 v12).From) ≤ ((v8 : Nat) : Int)))) && (decide (((v8 : Nat) : Int) < ((ix a0 v12).To)))) && !(decide (v11 < (0 : Int)))) (v := vb (decide (((ix a0 v12).To) < ((ix a0 v11.toNat).To)))) _ _ (cz (IG 50 (.bin .lss false (.t 44) (.t 49)) 42 false) (by kernel_rfl)) rfl (by kernel_rfl) (fun hg => (.cons hg (.cons hg .nil)))) ?_
      refine RegD.op (OpD.org (g := ((decide ((ix v9 v12) < (0 : Int))) && (decide (((ix a0 v12).From) ≤ ((v8 : Nat) : Int)))) && (decide (((v8 : Nat) : Int) < ((ix a0 v12).To)))) (cz (IG 51 (.pick (.t 42) (.c (.p (.bool true))) (.t 50)) 39 true) (by kernel_rfl)) rfl rfl rfl (fun hg => by first | exact hokO2 hg | exact hokO3 hg | exact hokO1 | exact hokO0 | (rw [hg]; simp) | simp_all)) ?_
      refine RegD.op (OpD.and (cz (I0 52 (.pick (.t 39) (.t 51) (.c (.p (.bool false))))) (by kernel_rfl)) rfl rfl (by first | exact hokA1 | exact hokA0 | simp)) ?_
      refine RegD.done rfl (by kernel_rfl) (S' := ⟨[(0, .own 0 0 a0.length), (3, .own 1 0 ((List.replicate ((IntKind.u64.wrap ((IntKind.u64.wrap ((([(-1)] : List Int).length : Nat) : Int)) * (IntKind.u64.wrap ((a0.length : Nat) : Int)))).toNat) (0 : Int)).length)), (12, vi ((v8 : Nat) : Int)), (4, vi ((v8 : Nat) : Int)), (5, vi v11), (15, .own 0 0 a0.length), (16, vi ((a0.length : Nat) : Int)), (17, vi ((v12 : Nat) : Int)), (6, vi ((v12 : Nat) : Int)), (52, vb ((((decide ((ix v9 v12) < (0 : Int))) && (decide (((ix a0 v12).From) ≤ ((v8 : Nat) : Int)))) && (decide (((v8 : Nat) : Int) < ((ix a0 v12).To)))) && ((decide (v11 < (0 : Int))) || (decide (((ix a0 v12).To) < ((ix a0 v11.toNat).To))))))], [some (.row 2 (List.map eWindow a0)), some (.row 1 (List.map vi v9))]⟩) (sc [0, 1] (by decide) (by kernel_rfl) (obRen_row eWindow_frz rfl (obRen_row vi_frz (by kernel_rfl) .nil)) rfl rfl) ?_
      refine TriE.cond (b := (((decide ((ix v9 v12) < (0 : Int))) && (decide (((ix a0 v12).From) ≤ ((v8 : Nat) : Int)))) && (decide (((v8 : Nat) : Int) < ((ix a0 v12).To)))) && ((decide (v11 < (0 : Int))) || (decide (((ix a0 v12).To) < ((ix a0 v11.toNat).To))))) rfl (fun c7 => ?_) (fun c7 => ?_)
      · have h := cond_t h c7
        refine TriE.run [(0, .own 0 0 a0.length), (3, .own 1 0 ((List.replicate ((IntKind.u64.wrap ((IntKind.u64.wrap ((([(-1)] : List Int).length : Nat) : Int)) * (IntKind.u64.wrap ((a0.length : Nat) : Int)))).toNat) (0 : Int)).length)), (12, vi ((v8 : Nat) : Int)), (4, vi ((v8 : Nat) : Int)), (15, .own 0 0 a0.length), (16, vi ((a0.length : Nat) : Int)), (17, vi ((v12 : Nat) : Int)), (5, vi ((v12 : Nat) : Int))] [some (.row 2 (List.map eWindow a0)), some (.row 1 (List.map vi v9))] (by kernel_rfl) ?_
        exact Vs.intro Sees.refl ⟨((v12 : Nat) : Int), rfl, h⟩
      have h := cond_f h c7
      refine TriE.skip ?_
      exact Vs.intro (sl (by kernel_rfl)) ⟨v11, rfl, h⟩
    have h := cond_f h c2
    refine TriE.exit ?_
    exact Vs.intro (sl (by kernel_rfl)) ⟨v11, rfl, h⟩
  have h := cond_f h c1
  refine TriE.exit ?_
  exact Vs.intro (sl (by kernel_rfl)) ⟨v9, rfl, h⟩
theorem diary_Most_2_ok (n : Nat) (a0 : List Window) (r : Int ⊕ (List Int)) (h : diary_Most_2 n a0 = some r) : FnL Try.prog 36 [.own 0 0 a0.length] [some (.row 2 (List.map eWindow a0))] (match r with | .inl r => .tup [.emp, vi r] | .inr r => .tup [.own 1 0 ((List.replicate ((IntKind.u64.wrap ((IntKind.u64.wrap ((([(-1)] : List Int).length : Nat) : Int)) * (IntKind.u64.wrap (a0.length : Int)))).toNat) (0 : Int)).length), vi 0]) (match r with | .inl r => [some (.row 2 (List.map eWindow a0))] | .inr r => [some (.row 2 (List.map eWindow a0)), some (.row 1 (List.map vi r))]) := by
 dsimp only [diary_Most_2] at h
 refine FnL.ofS (ts := [2, 3]) Try.call36 Try.func36 rfl rfl (Nat.le_of_ble_eq_true rfl) (by rcases r with r | r <;> exact Nat.le_of_ble_eq_true rfl) (hall_of (.cons rfl .nil)) ?_
 refine sk .a ?_
 refine q1 ?_
 refine sj ?_
 refine rk 1 (.k (.i 5 (.own 0 0 a0.length) .n)) ?_
 refine bK h fun y1 hy1 h => ?_
 refine jco (vi y1) 6 [5] (diary_CheckWindows_2_ok n a0 y1 hy1) [0] rfl (.same (row_ren eWindow_frz _ _ _) .nil) (.same (row_ren eWindow_frz _ _ _) .nil) rfl ?_
 refine jk 1 (.d (.k (.i 4 (vi y1) .n))) ?_
 refine sk (.k2 (.i 8 (vb (y1 != (0 : Int))) .n)) ?_
 refine tc h (fun c1 h => ?_) (fun c1 h => ?_)
 ·refine sk (.i 2 .emp (.i 3 (vi y1) .n)) ?_
  refine q3 ?_
  have h := si h
  subst h
  exact DoneS.ret Sees.refl rfl rfl
 refine q2 ?_
 refine sj ?_
 refine rk 1 (.i 10 (.own 0 0 a0.length) .n) ?_
 refine bK h fun y2 hy2 h => ?_
 refine jco (.own 1 0 ((List.replicate ((IntKind.u64.wrap ((IntKind.u64.wrap ((([(-1)] : List Int).length : Nat) : Int)) * (IntKind.u64.wrap (a0.length : Int)))).toNat) (0 : Int)).length)) 11 [10] (diary_schedule_2_ok n a0 y2 hy2) [0] rfl (.same (row_ren eWindow_frz _ _ _) .nil) (.same (row_ren eWindow_frz _ _ _) (.same (row_ren vi_frz _ _ _) .nil)) rfl ?_
 refine jk 2 (.i 2 (.own 1 0 ((List.replicate ((IntKind.u64.wrap ((IntKind.u64.wrap ((([(-1)] : List Int).length : Nat) : Int)) * (IntKind.u64.wrap (a0.length : Int)))).toNat) (0 : Int)).length)) (.i 3 (vi 0) .n)) ?_
 refine q3 ?_
 have h := si h
 subst h
 exact DoneS.ret Sees.refl rfl rfl
theorem agraffelaw09_done_2_ok (n : Nat) (a0 : List Int) (a1 : Nat) (a2 : Nat) (r : Int) (h : agraffelaw09_done_2 n a0 a1 a2 = some r) : FnL Try.prog 50 [.own 0 a1 a2] [some (.row 1 (List.map vi a0))] (vi r) [some (.row 1 (List.map vi a0))] := by
 dsimp only [agraffelaw09_done_2] at h
 refine fob [2] Try.call50 Try.func50 rfl (.cons rfl .nil) ?_
 refine sk .a ?_
 refine sk (.k (.i 3 (vi 0) .n)) ?_
 refine TriE.seqK h (fun (v5 : Nat) => St.mk [(3, vi v5)] [some (.row 1 (List.map vi a0))]) ?_ ?_
 ·rintro v5 h
  refine sk (.i 2 (vi v5) .n) ?_
  refine q3 ?_
  have h := si h
  subst h
  exact DoneS.ret Sees.refl rfl rfl
 intro k2 h
 refine sk (.k2 (.i 4 (vi 0) .n)) ?_
 refine q4 ?_
 refine ts (.k (.i 3 (vi 0) (.i 4 (vi 0) .n))) ?_
 refine TriE.loopN h (fun (t : Nat × Nat) => match t with | (v2, v3) => St.mk [(0, .own 0 a1 a2), (3, vi v2), (4, vi v3)] [some (.row 1 (List.map vi a0))]) rfl ?_
 clear h
 rintro back ⟨v2, v3⟩ h
 dsimp only [agraffelaw09_done_2_L1] at h
 refine q1 ?_
 refine sj ?_
 refine rk 3 (.k3 (.i 5 (vi v3) (.i 7 (vi a2) .n))) ?_
 refine jo 8 (.bin .lss false 5 7) (n_lss (i := v3) (j := a2) rfl rfl) ?_
 refine jf (.d (.k3 (.i 8 (vb (decide (v3 < a2))) .n))) ?_
 refine tc h (fun c1 h => ?_) (fun c1 h => ?_)
 ·refine q2 ?_
  refine TriE.seqK h (fun (v4 : Nat) => St.mk [(0, .own 0 a1 a2), (4, vi v3), (3, vi v4)] [some (.row 1 (List.map vi a0))]) ?_ ?_
  ·rintro v4 h
   refine q6 ?_
   refine rk 1 (.k (.d (.k (.i 9 (vi v3) .n)))) ?_
   refine cK h fun c5 h => ?_
   refine jo 10 (.bin .add false 9 (ki 1)) (r_addn (i := v3) (j := 1) rfl rfl c5) ?_
   refine jk 1 (.d (.k2 (.i 4 (vi ((v3 + 1 : Nat) : Int)) .n))) ?_
   exact Vs.intro sy ⟨(v4, v3 + 1), rfl, h⟩
  intro k1 h
  refine q4 ?_
  refine sj ?_
  refine rk 2 (.k3 (.i 11 (.own 0 a1 a2) (.i 12 (vi v3) .n))) ?_
  refine jo 13 (.iaddr 1 11 12) (ok_iaddr_o (j := v3) rfl rfl rfl rfl c1) ?_
  refine cK h fun c2 h => ?_
  refine jo 14 (.load false 1 13) (ok_load_pm (l := a0) (e := vi) (v := vi (ix a0 (a1 + v3))) rfl rfl c2 rfl) ?_
  refine jk 1 (.d2 (.k3 (.i 15 (vb ((ix a0 (a1 + v3)) != ((-1) : Int))) .n))) ?_
  refine tc h (fun c3 h => ?_) (fun c3 h => ?_)
  ·refine q6 ?_
   refine rk 1 (.k (.d (.k (.i 16 (vi v2) .n)))) ?_
   refine cK h fun c4 h => ?_
   refine jo 17 (.bin .add false 16 (ki 1)) (r_addn (i := v2) (j := 1) rfl rfl c4) ?_
   refine jk 1 (.d (.k2 (.i 3 (vi ((v2 + 1 : Nat) : Int)) .n))) ?_
   exact Vs.intro sy ⟨(v2 + 1), rfl, h⟩
  refine q2 ?_
  exact Vs.intro sy ⟨v2, rfl, h⟩
 refine q5 ?_
 exact Vs.intro sy ⟨v2, rfl, h⟩
set_option maxHeartbeats 1000000 in
theorem agraffelaw09_DiaryHall_ok (n : Nat) (a0 : List Window) (a1 : List Int) (a2 : Window) (r : Bool) (h : agraffelaw09_DiaryHall n a0 a1 a2 = some r) : FnL Try.prog 9 [eS 2 eWindow a0, eS 1 vi a1, .agg [vi a2.From, vi a2.To]] [] (vb r) [] := by
 dsimp only [agraffelaw09_DiaryHall] at h
 refine fo [6] Try.call9 Try.func9 rfl ?_
 refine sko (.k2 (.i 5 (.ptr 0 0 0) .n)) [some (.row 2 [.agg [vi a2.From, vi a2.To]])] ?_
 refine q1 ?_
 refine sj ?_
 refine bK h fun y1 hy1 h => ?_
 refine jc 17 [] (agraffelaw09_awake_ok n y1 hy1) ?_
 refine jk 1 (.d (.k3 (.i 18 (vb (!y1)) .n))) ?_
 refine tc h (fun c1 h => ?_) (fun c1 h => ?_)
 ·refine sk (.i 6 (vb false) .n) ?_
  refine q3 ?_
  have h := si h
  subst h
  exact DoneS.ret (S' := ⟨[(6, vb false)], []⟩) (sc [] (by decide) (by kernel_rfl) ObRen.nil rfl rfl) rfl rfl
 refine q2 ?_
 refine q1 ?_
 refine sj ?_
 refine rk 1 (.k3 (.i 19 (eS 2 eWindow a0) .n)) ?_
 refine jo 20 (.len 0 19) (ok_len_m rfl) ?_
 refine jo 21 (.bin .gtr false 20 (ki 10)) (n_gtr (i := a0.length) (j := 10) rfl rfl) ?_
 refine rk 1 (.d2 (.k3 (.i 22 (vb (decide (10 < a0.length))) .n))) ?_
 refine gj (eS 1 vi a1) 23 (.mov 1) 22 false rfl ?_
 refine gv 24 (.len 0 23) 22 false rfl (fun hg => (ok_len_m rfl)) (fun hg => (.cons hg .nil)) ?_
 refine gv 25 (.bin .gtr false 24 (ki 20)) 22 false rfl (fun hg => (n_gtr (i := a1.length) (j := 20) rfl rfl)) (fun hg => (.cons hg (.cons rfl .nil))) ?_
 refine po 26 22 25 rfl rfl ?_
 refine rk 1 (.d4 (.k3 (.i 27 (vb ((decide (10 < a0.length)) || (decide (20 < a1.length)))) .n))) ?_
 refine gj (eS 2 eWindow a0) 28 (.mov 0) 27 false rfl ?_
 refine bK h fun y2 hy2 h => ?_
 refine gc 29 [28] 27 false rfl (fun hg => agrafferef09_CheckWindows_ok n a0 y2 (gcall_some hy2 hg)) (fun hg => (.cons rfl (.cons hg .nil))) (fun hg => by kernel_rfl) ?_
 refine gk (vb (y2 != (0 : Int))) 30 (.bin .neq false 29 (ki 0)) 27 false rfl (fun hg => (.cons hg (.cons rfl .nil))) ?_
 refine po 31 27 30 rfl rfl ?_
 refine jf (.d4 (.k3 (.i 31 (vb (((decide (10 < a0.length)) || (decide (20 < a1.length))) || (y2 != (0 : Int)))) .n))) ?_
 refine tc h (fun c2 h => ?_) (fun c2 h => ?_)
 ·refine sk (.i 6 (vb true) .n) ?_
  refine q3 ?_
  have h := si h
  subst h
  exact DoneS.ret (S' := ⟨[(6, vb true)], []⟩) (sc [] (by decide) (by kernel_rfl) ObRen.nil rfl rfl) rfl rfl
 refine q2 ?_
 refine TriE.seqK h (fun (v5 : Int) => St.mk [(0, eS 2 eWindow a0), (1, eS 1 vi a1), (5, .ptr 0 0 0), (8, vi v5)] [some (.row 2 [.agg [vi a2.From, vi a2.To]])]) ?_ ?_
 ·rintro v5 h
  refine sj ?_
  refine rk 1 (.k4 (.i 39 (eS 2 eWindow a0) .n)) ?_
  refine bK h fun y6 hy6 h => ?_
  refine jco (.own 1 0 a0.length) 40 [39] (agraffelaw09_windows_ok n a0 y6 hy6) [] rfl ObsRen.nil (.same (row_ren eWindow_frz _ _ _) .nil) rfl ?_
  refine RegJ.sees (Sees.freeze 1 (fr' := [(0, eS 2 eWindow a0), (1, eS 1 vi a1), (5, .ptr 0 0 0), (8, vi v5), (39, eS 2 eWindow a0), (40, eS 2 eWindow a0)]) (ob' := [some (.row 2 [.agg [vi a2.From, vi a2.To]]), none]) rfl (frz_row eWindow_frzE _) (.cons (.refl _) (.cons (.refl _) (.cons (.refl _) (.cons (.refl _) (.cons (.refl _) (.cons (frz_full rfl) .nil)))))) rfl) ?_
  refine bK h fun y7 hy7 h => ?_
  refine jc 41 [40] (diary_Crowd_ok n a0 y7 hy7) ?_
  refine jko 6 (.d (.k4 (.i 9 (.ptr 2 0 0) (.i 10 (vi y7.1) .n)))) [some (.row 2 [.agg [vi a2.From, vi a2.To]]), none, some (.row 2 [.agg [vi y7.2.1, vi y7.2.2]])] ?_
  refine TriE.seqK2 h (fun (v12 : Int) => St.mk [(0, eS 2 eWindow a0), (1, eS 1 vi a1), (5, .ptr 0 0 0), (8, vi v5), (9, .ptr 1 0 0), (10, vi y7.1), (11, .emp), (12, vi v12)] [some (.row 2 [.agg [vi a2.From, vi a2.To]]), some (.row 2 [.agg [vi y7.2.1, vi y7.2.2]])]) (fun (v29 : (List Int)) => St.mk [(0, eS 2 eWindow a0), (1, eS 1 vi a1), (5, .ptr 0 0 0), (8, vi v5), (9, .ptr 1 0 0), (10, vi y7.1), (11, .own 2 0 ((List.replicate ((IntKind.u64.wrap ((IntKind.u64.wrap ((([(-1)] : List Int).length : Nat) : Int)) * (IntKind.u64.wrap (a0.length : Int)))).toNat) (0 : Int)).length)), (12, vi 0)] [some (.row 2 [.agg [vi a2.From, vi a2.To]]), some (.row 2 [.agg [vi y7.2.1, vi y7.2.2]]), some (.row 1 (List.map vi v29))]) ?_ ?_ ?_
  ·rintro v12 h
   refine q1 ?_
   refine sj ?_
   refine rk 3 (.k4 (.k3 (.i 52 (vb (v12 != (0 : Int))) .n))) ?_
   refine gj (vi v5) 53 (.mov 8) 52 false rfl ?_
   refine gk (vb (v5 == (0 : Int))) 54 (.bin .eql false 53 (ki 0)) 52 false rfl (fun hg => (.cons hg (.cons rfl .nil))) ?_
   refine gj (vi y7.1) 55 (.mov 10) 52 false rfl ?_
   refine gk (vb (y7.1 == (12 : Int))) 56 (.bin .eql false 55 (ki 12)) 52 false rfl (fun hg => (.cons hg (.cons rfl .nil))) ?_
   refine gk (vb (!((v5 == (0 : Int)) == (y7.1 == (12 : Int))))) 57 (.bin .neq true 54 56) 52 false rfl (fun hg => (.cons hg (.cons hg .nil))) ?_
   refine po 58 52 57 rfl rfl ?_
   refine rk 1 (.d4 (.d2 (.k4 (.k3 (.i 59 (vb ((v12 != (0 : Int)) || (!((v5 == (0 : Int)) == (y7.1 == (12 : Int)))))) .n))))) ?_
   refine gj (vi v5) 60 (.mov 8) 59 false rfl ?_
   refine gk (vb (v5 != (0 : Int))) 61 (.bin .neq false 60 (ki 0)) 59 false rfl (fun hg => (.cons hg (.cons rfl .nil))) ?_
   refine gk (vb (v5 != (0 : Int))) 62 (.mov 61) 59 false rfl (fun hg => (.cons hg .nil)) ?_
   refine gj (vi v5) 63 (.mov 8) 62 true rfl ?_
   refine gk (vb (v5 != (16 : Int))) 64 (.bin .neq false 63 (ki 16)) 62 true rfl (fun hg => (.cons hg (.cons rfl .nil))) ?_
   refine RegJ.op (Op1.andg (g := !((v12 != (0 : Int)) || (!((v5 == (0 : Int)) == (y7.1 == (12 : Int)))))) (cy (IG 65 (.pick 62 64 (.c (.p (.bool false)))) 59 false)) rfl rfl rfl (fun hg => by first | exact hokA2 hg | exact hokA3 hg | exact hokA1 | exact hokA0 | (rw [hg]; simp) | simp_all)) ?_
   refine po 66 59 65 rfl rfl ?_
   refine jf (.d4 (.d3 (.k3 (.d (.k3 (.i 66 (vb (((v12 != (0 : Int)) || (!((v5 == (0 : Int)) == (y7.1 == (12 : Int))))) || ((v5 != (0 : Int)) && (v5 != (16 : Int))))) .n)))))) ?_
   refine tc h (fun c3 h => ?_) (fun c3 h => ?_)
   ·refine sk (.i 6 (vb false) .n) ?_
    refine q3 ?_
    have h := si h
    subst h
    exact DoneS.ret (S' := ⟨[(6, vb false)], []⟩) (sc [] (by decide) (by kernel_rfl) ObRen.nil rfl rfl) rfl rfl
   refine q2 ?_
   refine q1 ?_
   refine q1 ?_
   refine ts (.k4 (.k2 .n)) ?_
   refine TriE.draw (by kernel_rfl) ?_
   refine dk 3 (.i 69 (vb (y7.1 == (0 : Int))) (.i 68 (vb (y7.1 == (0 : Int))) (.i 67 (vi y7.1) .a))) ?_
   refine gd (y7.1 == (0 : Int)) (eS 2 eWindow a0) 70 (.mov 0) 69 true rfl (fun hg => (.cons rfl .nil)) ?_
   refine bK h fun y13 hy13 h => ?_
   refine du (y7.1 == (0 : Int)) 71 [70] 69 true rfl (fun hg => agraffelaw09_windows_2_ok n a0 y13 (gcall_some hy13 hg)) (fun hg => (.cons rfl (.cons hg .nil))) (fun hg => by kernel_rfl) ?_
   refine gd (y7.1 == (0 : Int)) (.agg [vi y7.2.1, vi y7.2.2]) 72 (.load true 2 9) 69 true rfl (fun hg => (.cons rfl .nil)) ?_
   refine bK h fun y14 hy14 h => ?_
   refine du (y7.1 == (0 : Int)) 73 [71, 72] 69 true rfl (fun hg => diary_CheckCrowd_ok n a0 (Arr2_Int.mk y7.2.1 y7.2.2) y14 (gcall_some hy14 hg)) (fun hg => (.cons rfl (.cons hg (.cons hg .nil)))) (fun hg => by kernel_rfl) ?_
   refine gd (y7.1 == (0 : Int)) (vb (y14 != (0 : Int))) 74 (.bin .neq false 73 (ki 0)) 69 true rfl (fun hg => (.cons hg (.cons rfl .nil))) ?_
   refine RegD.op (OpD.and (cy (I0 75 (.pick 69 74 (.c (.p (.bool false)))))) rfl rfl (by first | exact hokA1 | exact hokA0 | simp)) ?_
   refine dfi (ob' := [some (.row 2 [.agg [vi a2.From, vi a2.To]])]) (.d4 (.d4 (.d (.k3 (.d2 (.k (.i 75 (vb ((y7.1 == (0 : Int)) && (y14 != (0 : Int)))) .n))))))) [0] (.cons rfl .nil) ?_
   refine tc h (fun c4 h => ?_) (fun c4 h => ?_)
   ·refine sk (.i 6 (vb false) .n) ?_
    refine q3 ?_
    have h := si h
    subst h
    exact DoneS.ret (S' := ⟨[(6, vb false)], []⟩) (sc [] (by decide) (by kernel_rfl) ObRen.nil rfl rfl) rfl rfl
   refine q2 ?_
   refine q1 ?_
   refine sj ?_
   refine rk 1 (.k4 (.i 77 (eS 2 eWindow a0) .n)) ?_
   refine bK h fun y15 hy15 h => ?_
   refine jco (.own 1 0 a0.length) 78 [77] (agraffelaw09_windows_ok n a0 y15 hy15) [] rfl ObsRen.nil (.same (row_ren eWindow_frz _ _ _) .nil) rfl ?_
   refine rk 1 (.d (.k (.d (.k2 (.i 78 (.own 1 0 a0.length) (.i 79 (eS 1 vi a1) .n)))))) ?_
   refine bK h fun y16 hy16 h => ?_
   refine jco (.own 2 0 a1.length) 80 [79] (agraffebase_CopyInts_ok n a1 y16 hy16) [] rfl ObsRen.nil (.same (row_ren vi_frz _ _ _) .nil) rfl ?_
   refine RegJ.sees (Sees.freeze 1 (fr' := [(0, eS 2 eWindow a0), (5, .ptr 0 0 0), (11, .emp), (78, eS 2 eWindow a0), (79, eS 1 vi a1), (80, .own 2 0 a1.length)]) (ob' := [some (.row 2 [.agg [vi a2.From, vi a2.To]]), none, some (.row 1 (List.map vi a1))]) rfl (frz_row eWindow_frzE _) (.cons (.refl _) (.cons (.refl _) (.cons (.refl _) (.cons (frz_full rfl) (.cons (.refl _) (.cons (.refl _) .nil)))))) rfl) ?_
   refine RegJ.sees (Sees.freeze 2 (fr' := [(0, eS 2 eWindow a0), (5, .ptr 0 0 0), (11, .emp), (78, eS 2 eWindow a0), (79, eS 1 vi a1), (80, eS 1 vi a1)]) (ob' := [some (.row 2 [.agg [vi a2.From, vi a2.To]]), none, none]) rfl (frz_row vi_frzE _) (.cons (.refl _) (.cons (.refl _) (.cons (.refl _) (.cons (.refl _) (.cons (.refl _) (.cons (frz_full rfl) .nil)))))) rfl) ?_
   refine bK h fun y17 hy17 h => ?_
   refine jc 81 [78, 80] (diary_CheckSlots_ok n a0 a1 y17 hy17) ?_
   refine jk 5 (.d (.k3 (.i 13 (vi y17.2) (.i 14 (vi y17.1) .n)))) ?_
   refine sj ?_
   refine rk 3 (.k4 (.i 86 (vb (y17.1 == (0 : Int))) .n)) ?_
   refine gj (vi y17.2) 87 (.mov 13) 86 true rfl ?_
   refine gj .emp 88 (.mov 11) 86 true rfl ?_
   refine bK h fun y18 hy18 h => ?_
   refine gc 89 [88] 86 true rfl (fun hg => FnL.co (.cons .sl .nil) (agraffelaw09_done_ok n ([] : List Int) y18 (gcall_some hy18 hg))) (fun hg => (.cons rfl (.cons hg .nil))) (fun hg => by kernel_rfl) ?_
   refine gk (vb (decide (y18 < y17.2))) 90 (.bin .gtr false 87 89) 86 true rfl (fun hg => (.cons hg (.cons hg .nil))) ?_
   refine pa 91 86 90 rfl rfl ?_
   refine jf (.d4 (.d (.k3 (.i 91 (vb ((y17.1 == (0 : Int)) && (decide (y18 < y17.2)))) .n)))) ?_
   refine tc h (fun c5 h => ?_) (fun c5 h => ?_)
   ·refine sk (.i 6 (vb false) .n) ?_
    refine q3 ?_
    have h := si h
    subst h
    exact DoneS.ret (S' := ⟨[(6, vb false)], []⟩) (sc [] (by decide) (by kernel_rfl) ObRen.nil rfl rfl) rfl rfl
   refine q2 ?_
   refine TriE.seqK2 h (fun (v23 : Int) => St.mk [(11, .emp), (15, .emp), (16, vi v23)] []) (fun (v26 : (List Int)) => St.mk [(11, .emp), (15, .own 0 0 ((List.replicate ((IntKind.u64.wrap ((IntKind.u64.wrap ((([(-1)] : List Int).length : Nat) : Int)) * (IntKind.u64.wrap (((a0 ++ ([a2] : List Window)).length : Nat) : Int)))).toNat) (0 : Int)).length)), (16, vi 0)] [some (.row 1 (List.map vi v26))]) ?_ ?_ ?_
   ·rintro v23 h
    refine sj ?_
    refine rk 3 (.k2 (.i 103 (vb (v23 != (0 : Int))) .n)) ?_
    refine gj .emp 104 (.mov 15) 103 false rfl ?_
    refine bK h fun y24 hy24 h => ?_
    refine gc 105 [104] 103 false rfl (fun hg => FnL.co (.cons .sl .nil) (agraffelaw09_done_ok n ([] : List Int) y24 (gcall_some hy24 hg))) (fun hg => (.cons rfl (.cons hg .nil))) (fun hg => by kernel_rfl) ?_
    refine gj .emp 106 (.mov 11) 103 false rfl ?_
    refine bK h fun y25 hy25 h => ?_
    refine gc 107 [106] 103 false rfl (fun hg => FnL.co (.cons .sl .nil) (agraffelaw09_done_ok n ([] : List Int) y25 (gcall_some hy25 hg))) (fun hg => (.cons rfl (.cons hg .nil))) (fun hg => by kernel_rfl) ?_
    refine gk (vb (decide (y25 ≤ y24))) 108 (.bin .geq false 105 107) 103 false rfl (fun hg => (.cons hg (.cons hg .nil))) ?_
    refine po 109 103 108 rfl rfl ?_
    refine jk 1 (.i 6 (vb ((v23 != (0 : Int)) || (decide (y25 ≤ y24)))) .n) ?_
    refine q3 ?_
    have h := si h
    subst h
    exact DoneS.ret Sees.refl rfl rfl
   ·rintro v26 h
    refine sj ?_
    refine rk 3 (.k2 (.i 103 (vb false) .n)) ?_
    refine gj (.own 0 0 ((List.replicate ((IntKind.u64.wrap ((IntKind.u64.wrap ((([(-1)] : List Int).length : Nat) : Int)) * (IntKind.u64.wrap (((a0 ++ ([a2] : List Window)).length : Nat) : Int)))).toNat) (0 : Int)).length)) 104 (.mov 15) 103 false rfl ?_
    refine bK h fun y27 hy27 h => ?_
    refine RegJ.op (Op1.callg (g := !false) (y' := vi y27) (obx := [some (.row 1 (List.map vi v26))]) _ _ (cy (IG 105 (.call 50 [104]) 103 false)) rfl (fun hg => agraffelaw09_done_2_ok n v26 0 ((List.replicate ((IntKind.u64.wrap ((IntKind.u64.wrap ((([(-1)] : List Int).length : Nat) : Int)) * (IntKind.u64.wrap (((a0 ++ ([a2] : List Window)).length : Nat) : Int)))).toNat) (0 : Int)).length) y27 (gcall_some hy27 hg)) [0] (fun hg => by kernel_rfl) (fun hg => (.cons rfl (.cons hg .nil))) (by kernel_rfl) (by kernel_rfl) (.same (row_ren vi_frz _ _ _) .nil) (by kernel_rfl) (by kernel_rfl)) ?_
    refine gj .emp 106 (.mov 11) 103 false rfl ?_
    refine bK h fun y28 hy28 h => ?_
    refine gc 107 [106] 103 false rfl (fun hg => FnL.co (.cons .sl .nil) (agraffelaw09_done_ok n ([] : List Int) y28 (gcall_some hy28 hg))) (fun hg => (.cons rfl (.cons hg .nil))) (fun hg => by kernel_rfl) ?_
    refine gk (vb (decide (y28 ≤ y27))) 108 (.bin .geq false 105 107) 103 false rfl (fun hg => (.cons hg (.cons hg .nil))) ?_
    refine po 109 103 108 rfl rfl ?_
    refine jk 1 (.i 6 (vb (false || (decide (y28 ≤ y27)))) .n) ?_
    refine q3 ?_
    have h := si h
    subst h
    exact DoneS.ret (S' := ⟨[(6, vb (false || (decide (y28 ≤ y27))))], []⟩) (sc [] (by decide) (by kernel_rfl) ObRen.nil rfl rfl) rfl rfl
   intro k3 k4 h
   refine ts (.k3 .n) ?_
   refine TriE.draw (by kernel_rfl) ?_
   refine dk 1 (.i 93 (eS 2 eWindow a0) .a) ?_
   refine bK h fun y19 hy19 h => ?_
   refine dc (.own 4 0 a0.length) 1 94 [93] (agraffelaw09_windows_ok n a0 y19 hy19) [] rfl ObsRen.nil (.same (row_ren eWindow_frz _ _ _) .nil) rfl (.inl rfl) ?_
   refine dko 2 (.i 96 (.own 7 0 1) (.i 95 (.agg [vi a2.From, vi a2.To]) .a)) [some (.row 2 [.agg [vi a2.From, vi a2.To]]), none, none, none, some (.row 2 (List.map eWindow a0)), none, none, some (.row 2 [.agg [vi a2.From, vi a2.To]])] ?_
   refine cK h fun c6 h => ?_
   refine dx 97 (.app 2 16 94 96) _ (ok_app_own (l := a0) (l2 := ([a2] : List Window)) (e := eWindow) (u := .own 7 0 1) rfl rfl rfl rfl rfl c6) rfl rfl ?_
   refine bK h fun y20 hy20 h => ?_
   rcases y20 with y20 | y20
   ·dsimp only at h
    refine dc (.tup [.emp, vi y20]) 0 98 [97] (diary_Most_2_ok n (a0 ++ ([a2] : List Window)) (Sum.inl y20) hy20) [8] rfl (.same (row_ren eWindow_frz _ _ _) .nil) (.same (row_ren eWindow_frz _ _ _) .nil) rfl (.inr ⟨rfl, rfl⟩) ?_
    refine dk 5 (.i 16 (vi y20) (.i 15 .emp (.i 100 (vi y20) (.i 99 .emp (.i 92 (.tup [.emp, vi y20]) .a))))) ?_
    refine dfi (.d4 (.d4 (.d4 (.d (.k (.i 15 .emp (.i 16 (vi y20) .n))))))) [] ObRen.nil ?_
    exact Vs.intro Sees.refl (.inl ⟨y20, rfl, h⟩)
   dsimp only at h
   refine dc (.tup [.own 9 0 ((List.replicate ((IntKind.u64.wrap ((IntKind.u64.wrap ((([(-1)] : List Int).length : Nat) : Int)) * (IntKind.u64.wrap (((a0 ++ ([a2] : List Window)).length : Nat) : Int)))).toNat) (0 : Int)).length), vi 0]) 1 98 [97] (diary_Most_2_ok n (a0 ++ ([a2] : List Window)) (Sum.inr y20) hy20) [8] rfl (.same (row_ren eWindow_frz _ _ _) .nil) (.same (row_ren eWindow_frz _ _ _) (.same (row_ren vi_frz _ _ _) .nil)) rfl (.inl rfl) ?_
   refine dk 5 (.i 16 (vi 0) (.i 15 (.own 9 0 ((List.replicate ((IntKind.u64.wrap ((IntKind.u64.wrap ((([(-1)] : List Int).length : Nat) : Int)) * (IntKind.u64.wrap (((a0 ++ ([a2] : List Window)).length : Nat) : Int)))).toNat) (0 : Int)).length)) (.i 100 (vi 0) (.i 99 (.own 9 0 ((List.replicate ((IntKind.u64.wrap ((IntKind.u64.wrap ((([(-1)] : List Int).length : Nat) : Int)) * (IntKind.u64.wrap (((a0 ++ ([a2] : List Window)).length : Nat) : Int)))).toNat) (0 : Int)).length)) (.i 92 (.tup [.own 9 0 ((List.replicate ((IntKind.u64.wrap ((IntKind.u64.wrap ((([(-1)] : List Int).length : Nat) : Int)) * (IntKind.u64.wrap (((a0 ++ ([a2] : List Window)).length : Nat) : Int)))).toNat) (0 : Int)).length), vi 0]) .a))))) ?_
   refine dfi (.d4 (.d4 (.d4 (.d (.k (.i 15 (.own 0 0 ((List.replicate ((IntKind.u64.wrap ((IntKind.u64.wrap ((([(-1)] : List Int).length : Nat) : Int)) * (IntKind.u64.wrap (((a0 ++ ([a2] : List Window)).length : Nat) : Int)))).toNat) (0 : Int)).length)) (.i 16 (vi 0) .n))))))) [9] (obRen_row vi_frz rfl .nil) ?_
   exact Vs.intro Sees.refl (.inr ⟨y20, rfl, h⟩)
  ·rintro v29 h
   refine q1 ?_
   refine sj ?_
   refine rk 3 (.k4 (.k3 (.i 52 (vb false) .n))) ?_
   refine gj (vi v5) 53 (.mov 8) 52 false rfl ?_
   refine gk (vb (v5 == (0 : Int))) 54 (.bin .eql false 53 (ki 0)) 52 false rfl (fun hg => (.cons hg (.cons rfl .nil))) ?_
   refine gj (vi y7.1) 55 (.mov 10) 52 false rfl ?_
   refine gk (vb (y7.1 == (12 : Int))) 56 (.bin .eql false 55 (ki 12)) 52 false rfl (fun hg => (.cons hg (.cons rfl .nil))) ?_
   refine gk (vb (!((v5 == (0 : Int)) == (y7.1 == (12 : Int))))) 57 (.bin .neq true 54 56) 52 false rfl (fun hg => (.cons hg (.cons hg .nil))) ?_
   refine po 58 52 57 rfl rfl ?_
   refine rk 1 (.d4 (.d2 (.k4 (.k3 (.i 59 (vb (false || (!((v5 == (0 : Int)) == (y7.1 == (12 : Int)))))) .n))))) ?_
   refine gj (vi v5) 60 (.mov 8) 59 false rfl ?_
   refine gk (vb (v5 != (0 : Int))) 61 (.bin .neq false 60 (ki 0)) 59 false rfl (fun hg => (.cons hg (.cons rfl .nil))) ?_
   refine gk (vb (v5 != (0 : Int))) 62 (.mov 61) 59 false rfl (fun hg => (.cons hg .nil)) ?_
   refine gj (vi v5) 63 (.mov 8) 62 true rfl ?_
   refine gk (vb (v5 != (16 : Int))) 64 (.bin .neq false 63 (ki 16)) 62 true rfl (fun hg => (.cons hg (.cons rfl .nil))) ?_
   refine RegJ.op (Op1.andg (g := !(false || (!((v5 == (0 : Int)) == (y7.1 == (12 : Int)))))) (cy (IG 65 (.pick 62 64 (.c (.p (.bool false)))) 59 false)) rfl rfl rfl (fun hg => by first | exact hokA2 hg | exact hokA3 hg | exact hokA1 | exact hokA0 | (rw [hg]; simp) | simp_all)) ?_
   refine po 66 59 65 rfl rfl ?_
   refine jf (.d4 (.d3 (.k3 (.d (.k3 (.i 66 (vb ((false || (!((v5 == (0 : Int)) == (y7.1 == (12 : Int))))) || ((v5 != (0 : Int)) && (v5 != (16 : Int))))) .n)))))) ?_
   refine tc h (fun c7 h => ?_) (fun c7 h => ?_)
   ·refine sk (.i 6 (vb false) .n) ?_
    refine q3 ?_
    have h := si h
    subst h
    exact DoneS.ret (S' := ⟨[(6, vb false)], []⟩) (sc [] (by decide) (by kernel_rfl) ObRen.nil rfl rfl) rfl rfl
   refine q2 ?_
   refine q1 ?_
   refine q1 ?_
   refine ts (.k4 (.k2 .n)) ?_
   refine TriE.draw (by kernel_rfl) ?_
   refine dk 3 (.i 69 (vb (y7.1 == (0 : Int))) (.i 68 (vb (y7.1 == (0 : Int))) (.i 67 (vi y7.1) .a))) ?_
   refine gd (y7.1 == (0 : Int)) (eS 2 eWindow a0) 70 (.mov 0) 69 true rfl (fun hg => (.cons rfl .nil)) ?_
   refine bK h fun y30 hy30 h => ?_
   refine du (y7.1 == (0 : Int)) 71 [70] 69 true rfl (fun hg => agraffelaw09_windows_2_ok n a0 y30 (gcall_some hy30 hg)) (fun hg => (.cons rfl (.cons hg .nil))) (fun hg => by kernel_rfl) ?_
   refine gd (y7.1 == (0 : Int)) (.agg [vi y7.2.1, vi y7.2.2]) 72 (.load true 2 9) 69 true rfl (fun hg => (.cons rfl .nil)) ?_
   refine bK h fun y31 hy31 h => ?_
   refine du (y7.1 == (0 : Int)) 73 [71, 72] 69 true rfl (fun hg => diary_CheckCrowd_ok n a0 (Arr2_Int.mk y7.2.1 y7.2.2) y31 (gcall_some hy31 hg)) (fun hg => (.cons rfl (.cons hg (.cons hg .nil)))) (fun hg => by kernel_rfl) ?_
   refine gd (y7.1 == (0 : Int)) (vb (y31 != (0 : Int))) 74 (.bin .neq false 73 (ki 0)) 69 true rfl (fun hg => (.cons hg (.cons rfl .nil))) ?_
   refine RegD.op (OpD.and (cy (I0 75 (.pick 69 74 (.c (.p (.bool false)))))) rfl rfl (by first | exact hokA1 | exact hokA0 | simp)) ?_
   refine dfi (ob' := [some (.row 2 [.agg [vi a2.From, vi a2.To]]), some (.row 1 (List.map vi v29))]) (.d4 (.d4 (.d (.k3 (.i 11 (.own 1 0 ((List.replicate ((IntKind.u64.wrap ((IntKind.u64.wrap ((([(-1)] : List Int).length : Nat) : Int)) * (IntKind.u64.wrap (a0.length : Int)))).toNat) (0 : Int)).length)) (.i 75 (vb ((y7.1 == (0 : Int)) && (y31 != (0 : Int)))) .n)))))) [0, 2] (.cons rfl (obRen_row vi_frz rfl .nil)) ?_
   refine tc h (fun c8 h => ?_) (fun c8 h => ?_)
   ·refine sk (.i 6 (vb false) .n) ?_
    refine q3 ?_
    have h := si h
    subst h
    exact DoneS.ret (S' := ⟨[(6, vb false)], []⟩) (sc [] (by decide) (by kernel_rfl) ObRen.nil rfl rfl) rfl rfl
   refine q2 ?_
   refine q1 ?_
   refine sj ?_
   refine rk 1 (.k4 (.i 77 (eS 2 eWindow a0) .n)) ?_
   refine bK h fun y32 hy32 h => ?_
   refine jco (.own 2 0 a0.length) 78 [77] (agraffelaw09_windows_ok n a0 y32 hy32) [] rfl ObsRen.nil (.same (row_ren eWindow_frz _ _ _) .nil) rfl ?_
   refine rk 1 (.d (.k (.d (.k2 (.i 78 (.own 2 0 a0.length) (.i 79 (eS 1 vi a1) .n)))))) ?_
   refine bK h fun y33 hy33 h => ?_
   refine jco (.own 3 0 a1.length) 80 [79] (agraffebase_CopyInts_ok n a1 y33 hy33) [] rfl ObsRen.nil (.same (row_ren vi_frz _ _ _) .nil) rfl ?_
   refine RegJ.sees (Sees.freeze 2 (fr' := [(0, eS 2 eWindow a0), (5, .ptr 0 0 0), (11, .own 1 0 ((List.replicate ((IntKind.u64.wrap ((IntKind.u64.wrap ((([(-1)] : List Int).length : Nat) : Int)) * (IntKind.u64.wrap (a0.length : Int)))).toNat) (0 : Int)).length)), (78, eS 2 eWindow a0), (79, eS 1 vi a1), (80, .own 3 0 a1.length)]) (ob' := [some (.row 2 [.agg [vi a2.From, vi a2.To]]), some (.row 1 (List.map vi v29)), none, some (.row 1 (List.map vi a1))]) rfl (frz_row eWindow_frzE _) (.cons (.refl _) (.cons (.refl _) (.cons (.refl _) (.cons (frz_full rfl) (.cons (.refl _) (.cons (.refl _) .nil)))))) rfl) ?_
   refine RegJ.sees (Sees.freeze 3 (fr' := [(0, eS 2 eWindow a0), (5, .ptr 0 0 0), (11, .own 1 0 ((List.replicate ((IntKind.u64.wrap ((IntKind.u64.wrap ((([(-1)] : List Int).length : Nat) : Int)) * (IntKind.u64.wrap (a0.length : Int)))).toNat) (0 : Int)).length)), (78, eS 2 eWindow a0), (79, eS 1 vi a1), (80, eS 1 vi a1)]) (ob' := [some (.row 2 [.agg [vi a2.From, vi a2.To]]), some (.row 1 (List.map vi v29)), none, none]) rfl (frz_row vi_frzE _) (.cons (.refl _) (.cons (.refl _) (.cons (.refl _) (.cons (.refl _) (.cons (.refl _) (.cons (frz_full rfl) .nil)))))) rfl) ?_
   refine bK h fun y34 hy34 h => ?_
   refine jc 81 [78, 80] (diary_CheckSlots_ok n a0 a1 y34 hy34) ?_
   refine jk 5 (.d (.k3 (.i 13 (vi y34.2) (.i 14 (vi y34.1) .n)))) ?_
   refine sj ?_
   refine rk 3 (.k4 (.i 86 (vb (y34.1 == (0 : Int))) .n)) ?_
   refine gj (vi y34.2) 87 (.mov 13) 86 true rfl ?_
   refine gj (.own 1 0 ((List.replicate ((IntKind.u64.wrap ((IntKind.u64.wrap ((([(-1)] : List Int).length : Nat) : Int)) * (IntKind.u64.wrap (a0.length : Int)))).toNat) (0 : Int)).length)) 88 (.mov 11) 86 true rfl ?_
   refine bK h fun y35 hy35 h => ?_
   refine RegJ.op (Op1.callg (g := (y34.1 == (0 : Int))) (y' := vi y35) (obx := [some (.row 1 (List.map vi v29))]) _ _ (cy (IG 89 (.call 50 [88]) 86 true)) rfl (fun hg => agraffelaw09_done_2_ok n v29 0 ((List.replicate ((IntKind.u64.wrap ((IntKind.u64.wrap ((([(-1)] : List Int).length : Nat) : Int)) * (IntKind.u64.wrap (a0.length : Int)))).toNat) (0 : Int)).length) y35 (gcall_some hy35 hg)) [1] (fun hg => by kernel_rfl) (fun hg => (.cons rfl (.cons hg .nil))) (by kernel_rfl) (by kernel_rfl) (.same (row_ren vi_frz _ _ _) .nil) (by kernel_rfl) (by kernel_rfl)) ?_
   refine gk (vb (decide (y35 < y34.2))) 90 (.bin .gtr false 87 89) 86 true rfl (fun hg => (.cons hg (.cons hg .nil))) ?_
   refine pa 91 86 90 rfl rfl ?_
   refine jf (.d4 (.d (.k3 (.i 91 (vb ((y34.1 == (0 : Int)) && (decide (y35 < y34.2)))) .n)))) ?_
   refine tc h (fun c9 h => ?_) (fun c9 h => ?_)
   ·refine sk (.i 6 (vb false) .n) ?_
    refine q3 ?_
    have h := si h
    subst h
    exact DoneS.ret (S' := ⟨[(6, vb false)], []⟩) (sc [] (by decide) (by kernel_rfl) ObRen.nil rfl rfl) rfl rfl
   refine q2 ?_
   refine TriE.seqK2 h (fun (v40 : Int) => St.mk [(11, .own 0 0 ((List.replicate ((IntKind.u64.wrap ((IntKind.u64.wrap ((([(-1)] : List Int).length : Nat) : Int)) * (IntKind.u64.wrap (a0.length : Int)))).toNat) (0 : Int)).length)), (15, .emp), (16, vi v40)] [some (.row 1 (List.map vi v29))]) (fun (v43 : (List Int)) => St.mk [(11, .own 0 0 ((List.replicate ((IntKind.u64.wrap ((IntKind.u64.wrap ((([(-1)] : List Int).length : Nat) : Int)) * (IntKind.u64.wrap (a0.length : Int)))).toNat) (0 : Int)).length)), (15, .own 1 0 ((List.replicate ((IntKind.u64.wrap ((IntKind.u64.wrap ((([(-1)] : List Int).length : Nat) : Int)) * (IntKind.u64.wrap (((a0 ++ ([a2] : List Window)).length : Nat) : Int)))).toNat) (0 : Int)).length)), (16, vi 0)] [some (.row 1 (List.map vi v29)), some (.row 1 (List.map vi v43))]) ?_ ?_ ?_
   ·rintro v40 h
    refine sj ?_
    refine rk 3 (.k2 (.i 103 (vb (v40 != (0 : Int))) .n)) ?_
    refine gj .emp 104 (.mov 15) 103 false rfl ?_
    refine bK h fun y41 hy41 h => ?_
    refine gc 105 [104] 103 false rfl (fun hg => FnL.co (.cons .sl .nil) (agraffelaw09_done_ok n ([] : List Int) y41 (gcall_some hy41 hg))) (fun hg => (.cons rfl (.cons hg .nil))) (fun hg => by kernel_rfl) ?_
    refine gj (.own 0 0 ((List.replicate ((IntKind.u64.wrap ((IntKind.u64.wrap ((([(-1)] : List Int).length : Nat) : Int)) * (IntKind.u64.wrap (a0.length : Int)))).toNat) (0 : Int)).length)) 106 (.mov 11) 103 false rfl ?_
    refine bK h fun y42 hy42 h => ?_
    refine RegJ.op (Op1.callg (g := !(v40 != (0 : Int))) (y' := vi y42) (obx := [some (.row 1 (List.map vi v29))]) _ _ (cy (IG 107 (.call 50 [106]) 103 false)) rfl (fun hg => agraffelaw09_done_2_ok n v29 0 ((List.replicate ((IntKind.u64.wrap ((IntKind.u64.wrap ((([(-1)] : List Int).length : Nat) : Int)) * (IntKind.u64.wrap (a0.length : Int)))).toNat) (0 : Int)).length) y42 (gcall_some hy42 hg)) [0] (fun hg => by kernel_rfl) (fun hg => (.cons rfl (.cons hg .nil))) (by kernel_rfl) (by kernel_rfl) (.same (row_ren vi_frz _ _ _) .nil) (by kernel_rfl) (by kernel_rfl)) ?_
    refine gk (vb (decide (y42 ≤ y41))) 108 (.bin .geq false 105 107) 103 false rfl (fun hg => (.cons hg (.cons hg .nil))) ?_
    refine po 109 103 108 rfl rfl ?_
    refine jk 1 (.i 6 (vb ((v40 != (0 : Int)) || (decide (y42 ≤ y41)))) .n) ?_
    refine q3 ?_
    have h := si h
    subst h
    exact DoneS.ret (S' := ⟨[(6, vb ((v40 != (0 : Int)) || (decide (y42 ≤ y41))))], []⟩) (sc [] (by decide) (by kernel_rfl) ObRen.nil rfl rfl) rfl rfl
   ·rintro v43 h
    refine sj ?_
    refine rk 3 (.k2 (.i 103 (vb false) .n)) ?_
    refine gj (.own 1 0 ((List.replicate ((IntKind.u64.wrap ((IntKind.u64.wrap ((([(-1)] : List Int).length : Nat) : Int)) * (IntKind.u64.wrap (((a0 ++ ([a2] : List Window)).length : Nat) : Int)))).toNat) (0 : Int)).length)) 104 (.mov 15) 103 false rfl ?_
    refine bK h fun y44 hy44 h => ?_
    refine RegJ.op (Op1.callg (g := !false) (y' := vi y44) (obx := [some (.row 1 (List.map vi v43))]) _ _ (cy (IG 105 (.call 50 [104]) 103 false)) rfl (fun hg => agraffelaw09_done_2_ok n v43 0 ((List.replicate ((IntKind.u64.wrap ((IntKind.u64.wrap ((([(-1)] : List Int).length : Nat) : Int)) * (IntKind.u64.wrap (((a0 ++ ([a2] : List Window)).length : Nat) : Int)))).toNat) (0 : Int)).length) y44 (gcall_some hy44 hg)) [1] (fun hg => by kernel_rfl) (fun hg => (.cons rfl (.cons hg .nil))) (by kernel_rfl) (by kernel_rfl) (.same (row_ren vi_frz _ _ _) .nil) (by kernel_rfl) (by kernel_rfl)) ?_
    refine gj (.own 0 0 ((List.replicate ((IntKind.u64.wrap ((IntKind.u64.wrap ((([(-1)] : List Int).length : Nat) : Int)) * (IntKind.u64.wrap (a0.length : Int)))).toNat) (0 : Int)).length)) 106 (.mov 11) 103 false rfl ?_
    refine bK h fun y45 hy45 h => ?_
    refine RegJ.op (Op1.callg (g := !false) (y' := vi y45) (obx := [some (.row 1 (List.map vi v29))]) _ _ (cy (IG 107 (.call 50 [106]) 103 false)) rfl (fun hg => agraffelaw09_done_2_ok n v29 0 ((List.replicate ((IntKind.u64.wrap ((IntKind.u64.wrap ((([(-1)] : List Int).length : Nat) : Int)) * (IntKind.u64.wrap (a0.length : Int)))).toNat) (0 : Int)).length) y45 (gcall_some hy45 hg)) [0] (fun hg => by kernel_rfl) (fun hg => (.cons rfl (.cons hg .nil))) (by kernel_rfl) (by kernel_rfl) (.same (row_ren vi_frz _ _ _) .nil) (by kernel_rfl) (by kernel_rfl)) ?_
    refine gk (vb (decide (y45 ≤ y44))) 108 (.bin .geq false 105 107) 103 false rfl (fun hg => (.cons hg (.cons hg .nil))) ?_
    refine po 109 103 108 rfl rfl ?_
    refine jk 1 (.i 6 (vb (false || (decide (y45 ≤ y44)))) .n) ?_
    refine q3 ?_
    have h := si h
    subst h
    exact DoneS.ret (S' := ⟨[(6, vb (false || (decide (y45 ≤ y44))))], []⟩) (sc [] (by decide) (by kernel_rfl) ObRen.nil rfl rfl) rfl rfl
   intro k6 k7 h
   refine ts (.k3 .n) ?_
   refine TriE.draw (by kernel_rfl) ?_
   refine dk 1 (.i 93 (eS 2 eWindow a0) .a) ?_
   refine bK h fun y36 hy36 h => ?_
   refine dc (.own 5 0 a0.length) 1 94 [93] (agraffelaw09_windows_ok n a0 y36 hy36) [] rfl ObsRen.nil (.same (row_ren eWindow_frz _ _ _) .nil) rfl (.inl rfl) ?_
   refine dko 2 (.i 96 (.own 8 0 1) (.i 95 (.agg [vi a2.From, vi a2.To]) .a)) [some (.row 2 [.agg [vi a2.From, vi a2.To]]), some (.row 1 (List.map vi v29)), none, none, none, some (.row 2 (List.map eWindow a0)), none, none, some (.row 2 [.agg [vi a2.From, vi a2.To]])] ?_
   refine cK h fun c10 h => ?_
   refine dx 97 (.app 2 16 94 96) _ (ok_app_own (l := a0) (l2 := ([a2] : List Window)) (e := eWindow) (u := .own 8 0 1) rfl rfl rfl rfl rfl c10) rfl rfl ?_
   refine bK h fun y37 hy37 h => ?_
   rcases y37 with y37 | y37
   ·dsimp only at h
    refine dc (.tup [.emp, vi y37]) 0 98 [97] (diary_Most_2_ok n (a0 ++ ([a2] : List Window)) (Sum.inl y37) hy37) [9] rfl (.same (row_ren eWindow_frz _ _ _) .nil) (.same (row_ren eWindow_frz _ _ _) .nil) rfl (.inr ⟨rfl, rfl⟩) ?_
    refine dk 5 (.i 16 (vi y37) (.i 15 .emp (.i 100 (vi y37) (.i 99 .emp (.i 92 (.tup [.emp, vi y37]) .a))))) ?_
    refine dfi (.i 11 (.own 0 0 ((List.replicate ((IntKind.u64.wrap ((IntKind.u64.wrap ((([(-1)] : List Int).length : Nat) : Int)) * (IntKind.u64.wrap (a0.length : Int)))).toNat) (0 : Int)).length)) (.d (.k (.i 16 (vi y37) .n)))) [1] (obRen_row vi_frz rfl .nil) ?_
    exact Vs.intro Sees.refl (.inl ⟨y37, rfl, h⟩)
   dsimp only at h
   refine dc (.tup [.own 10 0 ((List.replicate ((IntKind.u64.wrap ((IntKind.u64.wrap ((([(-1)] : List Int).length : Nat) : Int)) * (IntKind.u64.wrap (((a0 ++ ([a2] : List Window)).length : Nat) : Int)))).toNat) (0 : Int)).length), vi 0]) 1 98 [97] (diary_Most_2_ok n (a0 ++ ([a2] : List Window)) (Sum.inr y37) hy37) [9] rfl (.same (row_ren eWindow_frz _ _ _) .nil) (.same (row_ren eWindow_frz _ _ _) (.same (row_ren vi_frz _ _ _) .nil)) rfl (.inl rfl) ?_
   refine dk 5 (.i 16 (vi 0) (.i 15 (.own 10 0 ((List.replicate ((IntKind.u64.wrap ((IntKind.u64.wrap ((([(-1)] : List Int).length : Nat) : Int)) * (IntKind.u64.wrap (((a0 ++ ([a2] : List Window)).length : Nat) : Int)))).toNat) (0 : Int)).length)) (.i 100 (vi 0) (.i 99 (.own 10 0 ((List.replicate ((IntKind.u64.wrap ((IntKind.u64.wrap ((([(-1)] : List Int).length : Nat) : Int)) * (IntKind.u64.wrap (((a0 ++ ([a2] : List Window)).length : Nat) : Int)))).toNat) (0 : Int)).length)) (.i 92 (.tup [.own 10 0 ((List.replicate ((IntKind.u64.wrap ((IntKind.u64.wrap ((([(-1)] : List Int).length : Nat) : Int)) * (IntKind.u64.wrap (((a0 ++ ([a2] : List Window)).length : Nat) : Int)))).toNat) (0 : Int)).length), vi 0]) .a))))) ?_
   refine dfi (.i 11 (.own 0 0 ((List.replicate ((IntKind.u64.wrap ((IntKind.u64.wrap ((([(-1)] : List Int).length : Nat) : Int)) * (IntKind.u64.wrap (a0.length : Int)))).toNat) (0 : Int)).length)) (.i 15 (.own 1 0 ((List.replicate ((IntKind.u64.wrap ((IntKind.u64.wrap ((([(-1)] : List Int).length : Nat) : Int)) * (IntKind.u64.wrap (((a0 ++ ([a2] : List Window)).length : Nat) : Int)))).toNat) (0 : Int)).length)) (.k .n))) [1, 10] (obRen_row vi_frz rfl (obRen_row vi_frz rfl .nil)) ?_
   exact Vs.intro Sees.refl (.inr ⟨y37, rfl, h⟩)
  intro k2 k5 h
  refine q6 ?_
  refine rk 1 (.k4 (.k2 (.i 45 (eS 2 eWindow a0) .n))) ?_
  refine bK h fun y8 hy8 h => ?_
  refine jco (.own 3 0 a0.length) 46 [45] (agraffelaw09_windows_ok n a0 y8 hy8) [] rfl ObsRen.nil (.same (row_ren eWindow_frz _ _ _) .nil) rfl ?_
  refine RegJ.sees (Sees.freeze 3 (fr' := [(0, eS 2 eWindow a0), (1, eS 1 vi a1), (5, .ptr 0 0 0), (8, vi v5), (9, .ptr 2 0 0), (10, vi y7.1), (45, eS 2 eWindow a0), (46, eS 2 eWindow a0)]) (ob' := [some (.row 2 [.agg [vi a2.From, vi a2.To]]), none, some (.row 2 [.agg [vi y7.2.1, vi y7.2.2]]), none]) rfl (frz_row eWindow_frzE _) (.cons (.refl _) (.cons (.refl _) (.cons (.refl _) (.cons (.refl _) (.cons (.refl _) (.cons (.refl _) (.cons (.refl _) (.cons (frz_full rfl) .nil)))))))) rfl) ?_
  refine bK h fun y9 hy9 h => ?_
  rcases y9 with y9 | y9
  ·dsimp only at h
   refine jc 47 [46] (diary_Most_ok n a0 (Sum.inl y9) hy9) ?_
   refine jk 5 (.d (.k4 (.k2 (.i 11 .emp (.i 12 (vi y9) .n))))) ?_
   exact Vs.intro (sc [0, 2] (by decide) (by kernel_rfl) (.cons rfl (.cons rfl .nil)) rfl rfl) (.inl ⟨y9, rfl, h⟩)
  dsimp only at h
  refine jco (.tup [.own 4 0 ((List.replicate ((IntKind.u64.wrap ((IntKind.u64.wrap ((([(-1)] : List Int).length : Nat) : Int)) * (IntKind.u64.wrap (a0.length : Int)))).toNat) (0 : Int)).length), vi 0]) 47 [46] (diary_Most_ok n a0 (Sum.inr y9) hy9) [] rfl ObsRen.nil (.same (row_ren vi_frz _ _ _) .nil) rfl ?_
  refine jk 5 (.d (.k4 (.k2 (.i 11 (.own 4 0 ((List.replicate ((IntKind.u64.wrap ((IntKind.u64.wrap ((([(-1)] : List Int).length : Nat) : Int)) * (IntKind.u64.wrap (a0.length : Int)))).toNat) (0 : Int)).length)) (.i 12 (vi 0) .n))))) ?_
  exact Vs.intro (sc [0, 2, 4] (by decide) (by kernel_rfl) (.cons rfl (.cons rfl (obRen_row vi_frz rfl .nil))) rfl rfl) (.inr ⟨y9, rfl, h⟩)
 intro k1 h
 refine q6 ?_
 refine rk 1 (.k3 (.i 33 (eS 2 eWindow a0) .n)) ?_
 refine bK h fun y3 hy3 h => ?_
 refine jco (.own 1 0 a0.length) 34 [33] (agraffelaw09_windows_ok n a0 y3 hy3) [] rfl ObsRen.nil (.same (row_ren eWindow_frz _ _ _) .nil) rfl ?_
 refine RegJ.sees (Sees.freeze 1 (fr' := [(0, eS 2 eWindow a0), (1, eS 1 vi a1), (5, .ptr 0 0 0), (33, eS 2 eWindow a0), (34, eS 2 eWindow a0)]) (ob' := [some (.row 2 [.agg [vi a2.From, vi a2.To]]), none]) rfl (frz_row eWindow_frzE _) (.cons (.refl _) (.cons (.refl _) (.cons (.refl _) (.cons (.refl _) (.cons (frz_full rfl) .nil))))) rfl) ?_
 refine bK h fun y4 hy4 h => ?_
 rcases y4 with y4 | y4
 ·dsimp only at h
  refine jc 35 [34] (diary_Slots_ok n a0 (Sum.inl y4) hy4) ?_
  refine jk 5 (.d (.k3 (.i 8 (vi y4) .n))) ?_
  exact Vs.intro (sc [0] (by decide) (by kernel_rfl) (.cons rfl .nil) rfl rfl) ⟨y4, rfl, h⟩
 dsimp only at h
 refine jco (.tup [.own 2 0 ((List.replicate ((IntKind.u64.wrap ((IntKind.u64.wrap ((([(-1)] : List Int).length : Nat) : Int)) * (IntKind.u64.wrap (a0.length : Int)))).toNat) (0 : Int)).length), vi 0]) 35 [34] (diary_Slots_ok n a0 (Sum.inr y4) hy4) [] rfl ObsRen.nil (.same (row_ren vi_frz _ _ _) .nil) rfl ?_
 refine jk 5 (.d (.k3 (.i 8 (vi 0) .n))) ?_
 exact Vs.intro (sc [0] (by decide) (by kernel_rfl) (.cons rfl .nil) rfl rfl) ⟨0, rfl, h⟩
end Go.Proofs.Ytpmkdgnhllhaeaa.As
