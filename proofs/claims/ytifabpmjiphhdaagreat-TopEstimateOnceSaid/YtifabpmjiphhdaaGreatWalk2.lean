/- The code computes what the plain functions say, part 2: no condition. -/
import Derived.Test.YtifabpmjiphhdaaGreatWalk1
namespace Go.Proofs.YtifabpmjiphhdaaGreat.As
open Go Go.Proofs
set_option maxRecDepth 4000
set_option maxHeartbeats 1000000 in
theorem restore_Cheapest_ok (n : Nat) (a0 : List Task) (a1 : List Stocked) (a2 : List Str) (r : Int × (List Str) × Int) (h : restore_Cheapest n a0 a1 a2 = some r) : FnL Tryz.prog 58 [eS 6 eTask a0, eS 3 eStocked a1, eS 1 vt a2] [] (.tup [eS 1 vt r.2.1, vi r.2.2, vi r.1]) [] := by
 dsimp only [restore_Cheapest] at h
 refine fo [6, 7, 8] Tryz.call58 Tryz.func58 rfl ?_
 refine sk .a ?_
 refine q1 ?_
 refine sj ?_
 refine rk 1 (.k3 (.i 31 (eS 6 eTask a0) .n)) ?_
 obtain ⟨y1, hy1, h⟩ := bs h
 refine jc 32 [31] (restore_CheckTasks_ok n a0 y1 hy1) ?_
 refine jk 1 (.d (.k3 (.i 9 (vi y1) .n))) ?_
 refine sk (.k4 (.i 34 (vb (y1 != (0 : Int))) .n)) ?_
 refine tc h (fun c1 h => ?_) (fun c1 h => ?_)
 ·refine sk (.i 6 .emp (.i 7 (vi 0) (.i 8 (vi y1) .n))) ?_
  refine q3 ?_
  have h := si h
  subst h
  exact DoneS.ret (S' := ⟨[(6, eS 1 vt ([] : List Str)), (7, vi 0), (8, vi y1)], []⟩) (Sees.trans (Sees.vco (fr' := [(6, eS 1 vt ([] : List Str)), (7, vi 0), (8, vi y1)]) (.cons .sl (.cons .same (.cons .same .nil)))) sy) rfl rfl
 refine q2 ?_
 refine q1 ?_
 refine sj ?_
 refine rk 1 (.k3 (.i 36 (eS 3 eStocked a1) .n)) ?_
 obtain ⟨y2, hy2, h⟩ := bs h
 refine jc 37 [36] (restore_CheckStock_ok n a1 y2 hy2) ?_
 refine jk 1 (.d (.k3 (.i 10 (vi y2) .n))) ?_
 refine sk (.k4 (.i 39 (vb (y2 != (0 : Int))) .n)) ?_
 refine tc h (fun c2 h => ?_) (fun c2 h => ?_)
 ·refine sk (.i 6 .emp (.i 7 (vi 0) (.i 8 (vi y2) .n))) ?_
  refine q3 ?_
  have h := si h
  subst h
  exact DoneS.ret (S' := ⟨[(6, eS 1 vt ([] : List Str)), (7, vi 0), (8, vi y2)], []⟩) (Sees.trans (Sees.vco (fr' := [(6, eS 1 vt ([] : List Str)), (7, vi 0), (8, vi y2)]) (.cons .sl (.cons .same (.cons .same .nil)))) sy) rfl rfl
 refine q2 ?_
 refine sk (.k3 (.i 11 (eS 6 eTask a0) .n)) ?_
 refine q1 ?_
 refine sj ?_
 refine rk 2 (.k4 (.i 42 (eS 6 eTask a0) (.i 43 (eS 1 vt a2) .n))) ?_
 obtain ⟨y3, hy3, h⟩ := bs h
 refine jc 44 [42, 43] (restore_list_checkSet_ok n a0 a2 y3 hy3) ?_
 refine jk 1 (.d (.k4 (.i 12 (vi y3) .n))) ?_
 refine sk (.k4 (.k (.i 46 (vb (y3 != (0 : Int))) .n))) ?_
 refine tc h (fun c3 h => ?_) (fun c3 h => ?_)
 ·refine sk (.i 6 .emp (.i 7 (vi 0) (.i 8 (vi y3) .n))) ?_
  refine q3 ?_
  have h := si h
  subst h
  exact DoneS.ret (S' := ⟨[(6, eS 1 vt ([] : List Str)), (7, vi 0), (8, vi y3)], []⟩) (Sees.trans (Sees.vco (fr' := [(6, eS 1 vt ([] : List Str)), (7, vi 0), (8, vi y3)]) (.cons .sl (.cons .same (.cons .same .nil)))) sy) rfl rfl
 refine q2 ?_
 refine sko (.k4 (.i 13 (.ptr 0 0 0) .n)) [some (.row 3 [.agg [.emp, .emp, .emp]])] ?_
 refine TriE.seqK h (fun (v8 : (List Int)) => St.mk [(0, eS 6 eTask a0), (2, eS 1 vt a2), (11, eS 6 eTask a0), (13, .ptr 0 0 0)] [some (.row 3 [.agg [.emp, .emp, .own 1 0 v8.length]]), some (.row 1 (List.map vi v8))]) ?_ ?_
 ·rintro v8 h
  refine q1 ?_
  refine sj ?_
  refine rk 1 (.k4 (.i 75 (eS 6 eTask a0) .n)) ?_
  refine jo 76 (.len 0 75) (ok_len_m rfl) ?_
  refine jo 77 (.bin .gtr false 76 (ki 14)) (n_gtr (i := a0.length) (j := 14) rfl rfl) ?_
  refine jf (.d2 (.k4 (.i 77 (vb (decide (14 < a0.length))) .n))) ?_
  refine tc h (fun c8 h => ?_) (fun c8 h => ?_)
  ·refine sk (.i 6 .emp (.i 7 (vi 0) (.i 8 (vi 8) .n))) ?_
   refine q3 ?_
   have h := si h
   subst h
   exact DoneS.ret (S' := ⟨[(6, eS 1 vt ([] : List Str)), (7, vi 0), (8, vi 8)], []⟩) (Sees.trans (Sees.vco (fr' := [(6, eS 1 vt ([] : List Str)), (7, vi 0), (8, vi 8)]) (.cons .sl (.cons .same (.cons .same .nil)))) (sc [] (by decide) (by kernel_rfl) ObRen.nil rfl rfl)) rfl rfl
  refine q2 ?_
  refine TriE.seqK h (fun (t : (List (List Int)) × (List Int)) => match t with | (v24, v25) => St.mk [(0, eS 6 eTask a0), (2, eS 1 vt a2), (11, eS 6 eTask a0), (13, .ptr 0 0 0)] [some (.row 3 [.agg [.own 2 0 v25.length, .own 3 0 v24.length, .own 1 0 v8.length]]), some (.row 1 (List.map vi v8)), some (.row 1 (List.map (vk .u64) v25)), some (.row 1 (List.map (eS 1 (vk .u64)) v24))]) ?_ ?_
  ·rintro ⟨v24, v25⟩ h
   refine sk (.k4 (.i 23 .emp (.i 24 (vi (-1)) .n))) ?_
   refine sj ?_
   refine rk 2 (.k (.d (.k4 (.i 122 (eS 6 eTask a0) (.i 123 (eS 1 vt a2) .n))))) ?_
   obtain ⟨y26, hy26, h⟩ := bs h
   refine jc 124 [122, 123] (restore_list_bits_ok n a0 a2 y26 hy26) ?_
   refine jk 1 (.d (.k4 (.k (.i 25 (vk .u64 y26) .n)))) ?_
   refine TriE.seqK h (fun (t : (List Str) × Int) => match t with | (v64, v65) => St.mk [(23, eS 1 vt v64), (24, vi v65)] []) ?_ ?_
   ·rintro ⟨v64, v65⟩ h
    refine sk (.i 6 (eS 1 vt v64) (.i 7 (vi v65) (.i 8 (vi 0) .n))) ?_
    refine q3 ?_
    have h := si h
    subst h
    exact DoneS.ret Sees.refl rfl rfl
   intro k8 h
   refine sj ?_
   refine rk 1 (.d (.k4 (.k (.i 125 (eS 6 eTask a0) .n)))) ?_
   refine jo 126 (.len 0 125) (ok_len_m rfl) ?_
   obtain ⟨c17, h⟩ := ck h
   refine jo 127 (.bin .shl false (.c (.p (.int .u64 1))) 126) (r_shl rfl rfl c17) ?_
   refine jk 1 (.d2 (.k4 (.k (.i 127 (vk .u64 (IntKind.u64.wrap (1 * 2 ^ (min (a0.length : Int).toNat 64)))) (.i 128 (vk .u64 0) .n))))) ?_
   refine q4 ?_
   refine TriE.sees (S' := ⟨[(11, eS 6 eTask a0), (13, .ptr 0 0 0), (23, eS 1 vt ([] : List Str)), (24, vi (-1)), (25, vk .u64 y26), (127, vk .u64 (IntKind.u64.wrap (1 * 2 ^ (min (a0.length : Int).toNat 64)))), (128, vk .u64 0)], [some (.row 3 [.agg [.own 2 0 v25.length, .own 3 0 v24.length, .own 1 0 v8.length]]), some (.row 1 (List.map vi v8)), some (.row 1 (List.map (vk .u64) v25)), some (.row 1 (List.map (eS 1 (vk .u64)) v24))]⟩) (Sees.trans (Sees.vco (fr' := [(11, eS 6 eTask a0), (13, .ptr 0 0 0), (23, eS 1 vt ([] : List Str)), (24, vi (-1)), (25, vk .u64 y26), (127, vk .u64 (IntKind.u64.wrap (1 * 2 ^ (min (a0.length : Int).toNat 64)))), (128, vk .u64 0)]) (.cons .same (.cons .same (.cons .sl (.cons .same (.cons .same (.cons .same (.cons .same .nil)))))))) sy) ?_
   refine TriE.loopN h (fun (t : (List Str) × Int × Int) => match t with | (v44, v45, v46) => St.mk [(11, eS 6 eTask a0), (13, .ptr 0 0 0), (23, eS 1 vt v44), (24, vi v45), (25, vk .u64 y26), (127, vk .u64 (IntKind.u64.wrap (1 * 2 ^ (min (a0.length : Int).toNat 64)))), (128, vk .u64 v46)] [some (.row 3 [.agg [.own 2 0 v25.length, .own 3 0 v24.length, .own 1 0 v8.length]]), some (.row 1 (List.map vi v8)), some (.row 1 (List.map (vk .u64) v25)), some (.row 1 (List.map (eS 1 (vk .u64)) v24))]) rfl ?_
   clear h
   rintro back ⟨v44, v45, v46⟩ h
   dsimp only [restore_Cheapest_L5] at h
   refine sk (.k4 (.k3 (.i 129 (vb (decide (v46 < (IntKind.u64.wrap (1 * 2 ^ (min (a0.length : Int).toNat 64)))))) .n))) ?_
   refine q1 ?_
   refine tc h (fun c18 h => ?_) (fun c18 h => ?_)
   ·refine q2 ?_
    refine TriE.seqK h (fun (t : (List Str) × Int) => match t with | (v62, v63) => St.mk [(11, eS 6 eTask a0), (13, .ptr 0 0 0), (23, eS 1 vt v62), (24, vi v63), (25, vk .u64 y26), (127, vk .u64 (IntKind.u64.wrap (1 * 2 ^ (min (a0.length : Int).toNat 64)))), (128, vk .u64 v46)] [some (.row 3 [.agg [.own 2 0 v25.length, .own 3 0 v24.length, .own 1 0 v8.length]]), some (.row 1 (List.map vi v8)), some (.row 1 (List.map (vk .u64) v25)), some (.row 1 (List.map (eS 1 (vk .u64)) v24))]) ?_ ?_
    ·rintro ⟨v62, v63⟩ h
     refine tk (.k4 (.k2 (.i 128 (vk .u64 (IntKind.u64.wrap (v46 + 1))) .n))) ?_
     exact Vs.intro Sees.refl ⟨(v62, v63, IntKind.u64.wrap (v46 + 1)), rfl, h⟩
    intro k7 h
    refine q4 ?_
    refine sk (.k4 (.k3 (.i 26 (vk .u64 v46) .n))) ?_
    refine q1 ?_
    refine sj ?_
    refine rk 5 (.k4 (.k4 (.i 135 (vb ((iAndNot .u64 y26 v46) != (0 : Int))) .n))) ?_
    refine gj (.ptr 0 0 0) 136 (.mov 13) 135 false rfl ?_
    refine gj (vk .u64 v46) 137 (.mov 26) 135 false rfl ?_
    obtain ⟨y47, hy47, h⟩ := bs h
    refine RegJ.op (Op1.callg (g := !((iAndNot .u64 y26 v46) != (0 : Int))) (y' := vb y47) (obx := [some (.row 3 [.agg [.own 2 0 v25.length, .own 3 0 v24.length, .own 1 0 v8.length]]), some (.row 1 (List.map (vk .u64) v25)), some (.row 1 (List.map (eS 1 (vk .u64)) v24)), some (.row 1 (List.map vi v8))]) _ _ (cy (IG 138 (.call 126 [136, 137]) 135 false)) rfl (fun hg => restore_choice_closed_ok n v25 v24 v8 v46 y47 (gcall_some hy47 hg)) [0, 2, 3, 1] (fun hg => by kernel_rfl) (fun hg => (.cons rfl (.cons hg (.cons hg .nil)))) (by kernel_rfl) (by kernel_rfl) (.cons rfl (.same (row_ren (vk_frz .u64) _ _ _) (.same (row_ren (eS_frz 1 (vk .u64)) _ _ _) (.same (row_ren vi_frz _ _ _) .nil)))) (by kernel_rfl) (by kernel_rfl)) ?_
    refine gk (vb (!y47)) 139 (.un .not 138) 135 false rfl (fun hg => (.cons hg .nil)) ?_
    refine po 140 135 139 rfl rfl ?_
    refine jf (.d4 (.d (.k4 (.k4 (.i 140 (vb (((iAndNot .u64 y26 v46) != (0 : Int)) || (!y47))) .n))))) ?_
    refine tc h (fun c19 h => ?_) (fun c19 h => ?_)
    ·refine q5 ?_
     exact Vs.intro sy ⟨(v44, v45), rfl, h⟩
    refine q2 ?_
    refine sk (.k4 (.k4 (.i 27 (vi 0) .n))) ?_
    refine TriE.seqK h (fun (v52 : Int) => St.mk [(11, eS 6 eTask a0), (13, .ptr 0 0 0), (23, eS 1 vt v44), (24, vi v45), (25, vk .u64 y26), (127, vk .u64 (IntKind.u64.wrap (1 * 2 ^ (min (a0.length : Int).toNat 64)))), (128, vk .u64 v46), (26, vk .u64 v46), (27, vi v52)] [some (.row 3 [.agg [.own 2 0 v25.length, .own 3 0 v24.length, .own 1 0 v8.length]]), some (.row 1 (List.map vi v8)), some (.row 1 (List.map (vk .u64) v25)), some (.row 1 (List.map (eS 1 (vk .u64)) v24))]) ?_ ?_
    ·rintro v52 h
     refine sj ?_
     refine rk 2 (.k4 (.k3 (.d (.k (.i 160 (eS 6 eTask a0) (.i 161 (vk .u64 v46) .n)))))) ?_
     obtain ⟨y53, hy53, h⟩ := bs h
     refine jc 162 [160, 161] (restore_list_names_ok n a0 v46 y53 hy53) ?_
     refine jk 1 (.d (.k4 (.k4 (.i 30 (eS 1 vt y53) .n)))) ?_
     refine TriE.seqK h (fun (v60 : Bool) => St.mk [(11, eS 6 eTask a0), (13, .ptr 0 0 0), (23, eS 1 vt v44), (24, vi v45), (25, vk .u64 y26), (127, vk .u64 (IntKind.u64.wrap (1 * 2 ^ (min (a0.length : Int).toNat 64)))), (128, vk .u64 v46), (27, vi v52), (30, eS 1 vt y53), (180, vb v60)] [some (.row 3 [.agg [.own 2 0 v25.length, .own 3 0 v24.length, .own 1 0 v8.length]]), some (.row 1 (List.map vi v8)), some (.row 1 (List.map (vk .u64) v25)), some (.row 1 (List.map (eS 1 (vk .u64)) v24))]) ?_ ?_
     ·rintro v60 h
      refine tc h (fun c26 h => ?_) (fun c26 h => ?_)
      ·refine tk (.k2 (.d2 (.k3 (.i 23 (eS 1 vt y53) (.i 24 (vi v52) .n))))) ?_
       exact Vs.intro sy ⟨(y53, v52), rfl, h⟩
      refine q2 ?_
      exact Vs.intro sy ⟨(v44, v45), rfl, h⟩
     intro k6 h
     refine q6 ?_
     refine rk 3 (.k4 (.k4 (.k (.i 165 (vb (decide (v45 < (0 : Int)))) .n)))) ?_
     refine gj (vi v52) 166 (.mov 27) 165 false rfl ?_
     refine gj (vi v45) 167 (.mov 24) 165 false rfl ?_
     obtain ⟨y54, hy54, h⟩ := bs h
     refine gc 168 [166, 167] 165 false rfl (fun hg => cmp_Compare_int_ok n v52 v45 y54 (gcall_some hy54 hg)) (fun hg => (.cons rfl (.cons hg (.cons hg .nil)))) (fun hg => by kernel_rfl) ?_
     refine gj (eS 1 vt y53) 169 (.mov 30) 165 false rfl ?_
     refine gv 170 (.len 0 169) 165 false rfl (fun hg => (ok_len_m rfl)) (fun hg => (.cons hg .nil)) ?_
     refine gj (eS 1 vt v44) 171 (.mov 23) 165 false rfl ?_
     refine gv 172 (.len 0 171) 165 false rfl (fun hg => (ok_len_m rfl)) (fun hg => (.cons hg .nil)) ?_
     obtain ⟨y55, hy55, h⟩ := bs h
     refine gc 173 [170, 172] 165 false rfl (fun hg => cmp_Compare_int_ok n (y53.length : Int) (v44.length : Int) y55 (gcall_some hy55 hg)) (fun hg => (.cons rfl (.cons hg (.cons hg .nil)))) (fun hg => by kernel_rfl) ?_
     refine gj (eS 1 vt y53) 174 (.mov 30) 165 false rfl ?_
     refine gj (eS 1 vt v44) 175 (.mov 23) 165 false rfl ?_
     obtain ⟨y56, hy56, h⟩ := bs h
     refine gc 176 [174, 175] 165 false rfl (fun hg => slices_Compare_string_ok n y53 v44 y56 (gcall_some hy56 hg)) (fun hg => (.cons rfl (.cons hg (.cons hg .nil)))) (fun hg => by kernel_rfl) ?_
     rcases Bool.eq_false_or_eq_true (!(decide (v45 < (0 : Int)))) with c25 | c25
     ·have h := cond_t h c25
      refine RegJ.op (Op1.effk (v := .own 4 0 3) (ob' := [some (.row 3 [.agg [.own 2 0 v25.length, .own 3 0 v24.length, .own 1 0 v8.length]]), some (.row 1 (List.map vi v8)), some (.row 1 (List.map (vk .u64) v25)), some (.row 1 (List.map (eS 1 (vk .u64)) v24)), some (.row 1 [vi y54, vi y55, vi y56])]) _ _ (cy (IG 177 (.bslice 1 (.p (.int .i64 0)) 3 [(0, 168), (1, 173), (2, 176)]) 165 false)) (congrArg some c25) (by kernel_rfl) (.cons c25 (.cons c25 (.cons c25 .nil)))) ?_
      obtain ⟨y57, hy57, h⟩ := bs h
      refine RegJ.op (Op1.call (y' := vi y57) (obx := [some (.row 1 [vi y54, vi y55, vi y56])]) (oby := [some (.row 1 (List.map vi ([y54, y55, y56] : List Int)))]) (ob2 := [some (.row 3 [.agg [.own 2 0 v25.length, .own 3 0 v24.length, .own 1 0 v8.length]]), some (.row 1 (List.map vi v8)), some (.row 1 (List.map (vk .u64) v25)), some (.row 1 (List.map (eS 1 (vk .u64)) v24)), some (.row 1 (List.map vi ([y54, y55, y56] : List Int)))]) _ _ (cy (IG 178 (.call 128 [177]) 165 false)) (congrArg some c25) (cmp_Or_int_ok n ([y54, y55, y56] : List Int) y57 hy57) [4] (by kernel_rfl) (.cons rfl (.cons rfl .nil)) (by kernel_rfl) (by kernel_rfl) (.same (row_ren vi_frz _ _ _) .nil) (by kernel_rfl) (.same (row_ren vi_frz _ _ _) .nil) (by kernel_rfl)) ?_
      refine RegJ.op (Op1.effk (v := vb (decide (y57 < (0 : Int)))) (ob' := [some (.row 3 [.agg [.own 2 0 v25.length, .own 3 0 v24.length, .own 1 0 v8.length]]), some (.row 1 (List.map vi v8)), some (.row 1 (List.map (vk .u64) v25)), some (.row 1 (List.map (eS 1 (vk .u64)) v24)), some (.row 1 (List.map vi ([y54, y55, y56] : List Int)))]) _ _ (cy (IG 179 (.bin .lss false 178 (ki 0)) 165 false)) (congrArg some c25) (by kernel_rfl) (.cons rfl (.cons rfl .nil))) ?_
      refine po 180 165 179 rfl rfl ?_
      refine jf (.d4 (.d4 (.d4 (.d3 (.k4 (.k4 (.k (.i 177 (.own 4 0 3) (.i 178 (vi y57) (.i 179 (vb (decide (y57 < (0 : Int)))) (.i 180 (vb ((decide (v45 < (0 : Int))) || (decide (y57 < (0 : Int))))) .n))))))))))) ?_
      exact Vs.intro (sc [0, 1, 2, 3] (by decide) (by kernel_rfl) (.cons rfl (obRen_row vi_frz rfl (obRen_row (vk_frz .u64) rfl (obRen_row (eS_frz 1 (vk .u64)) rfl .nil)))) rfl rfl) ⟨((decide (v45 < (0 : Int))) || (decide (y57 < (0 : Int)))), rfl, h⟩
     have h := cond_f h c25
     refine RegJ.op (Op1.skipc (g := !(decide (v45 < (0 : Int)))) (v := vb false) (by kernel_rfl : compAt _ _ _ _ = some ⟨(some 177), .bslice 1 (.p (.int .i64 0)) 3 [(0, 168), (1, 173), (2, 176)], (some (165, false)), [168, 173, 176], 0⟩) rfl c25) ?_
     refine RegJ.op (Op1.skipc (g := !(decide (v45 < (0 : Int)))) (v := vb false) (by kernel_rfl : compAt _ _ _ _ = some ⟨(some 178), .call 128 [177], (some (165, false)), [(.c (.fn (.func 128) [] [])), 177], 2⟩) rfl c25) ?_
     refine RegJ.op (Op1.skipc (g := !(decide (v45 < (0 : Int)))) (v := vb false) (by kernel_rfl : compAt _ _ _ _ = some ⟨(some 179), .bin .lss false 178 (ki 0), (some (165, false)), [178, (ki 0)], 0⟩) rfl c25) ?_
     refine po 180 165 179 rfl rfl ?_
     refine jp [(11, eS 6 eTask a0), (13, .ptr 0 0 0), (23, eS 1 vt v44), (24, vi v45), (25, vk .u64 y26), (127, vk .u64 (IntKind.u64.wrap (1 * 2 ^ (min (a0.length : Int).toNat 64)))), (128, vk .u64 v46), (27, vi v52), (30, eS 1 vt y53), (180, vb ((decide (v45 < (0 : Int))) || false))] ?_
     exact Vs.intro Sees.refl ⟨((decide (v45 < (0 : Int))) || false), rfl, h⟩
    intro k5 h
    refine sk (.k4 (.k4 (.k (.i 144 (.own 1 0 v8.length) (.i 145 (vi (v8.length : Int)) (.i 146 (vi 0) .n)))))) ?_
    refine q4 ?_
    refine ts (.k4 (.k4 (.k3 (.i 146 (vi 0) .n)))) ?_
    refine TriE.loopN h (fun (t : Int × Nat) => match t with | (v49, v50) => St.mk [(11, eS 6 eTask a0), (13, .ptr 0 0 0), (23, eS 1 vt v44), (24, vi v45), (25, vk .u64 y26), (127, vk .u64 (IntKind.u64.wrap (1 * 2 ^ (min (a0.length : Int).toNat 64)))), (128, vk .u64 v46), (26, vk .u64 v46), (27, vi v49), (144, .own 1 0 v8.length), (145, vi (v8.length : Int)), (146, vi v50)] [some (.row 3 [.agg [.own 2 0 v25.length, .own 3 0 v24.length, .own 1 0 v8.length]]), some (.row 1 (List.map vi v8)), some (.row 1 (List.map (vk .u64) v25)), some (.row 1 (List.map (eS 1 (vk .u64)) v24))]) rfl ?_
    clear h
    rintro back ⟨v49, v50⟩ h
    dsimp only [restore_Cheapest_L4] at h
    refine sj ?_
    refine jo 147 (.bin .lss false 146 145) (n_lss (i := v50) (j := v8.length) rfl rfl) ?_
    refine jf (.d (.k4 (.k4 (.k4 (.i 147 (vb (decide (v50 < v8.length))) .n))))) ?_
    refine q1 ?_
    refine tc h (fun c20 h => ?_) (fun c20 h => ?_)
    ·refine q2 ?_
     refine TriE.seqK h (fun (v51 : Int) => St.mk [(11, eS 6 eTask a0), (13, .ptr 0 0 0), (23, eS 1 vt v44), (24, vi v45), (25, vk .u64 y26), (127, vk .u64 (IntKind.u64.wrap (1 * 2 ^ (min (a0.length : Int).toNat 64)))), (128, vk .u64 v46), (26, vk .u64 v46), (144, .own 1 0 v8.length), (145, vi (v8.length : Int)), (146, vi v50), (27, vi v51)] [some (.row 3 [.agg [.own 2 0 v25.length, .own 3 0 v24.length, .own 1 0 v8.length]]), some (.row 1 (List.map vi v8)), some (.row 1 (List.map (vk .u64) v25)), some (.row 1 (List.map (eS 1 (vk .u64)) v24))]) ?_ ?_
     ·rintro v51 h
      refine q6 ?_
      obtain ⟨c24, h⟩ := ck h
      refine jo 159 (.bin .add false 146 (ki 1)) (r_addn (i := v50) (j := 1) rfl rfl c24) ?_
      refine jk 1 (.d (.k4 (.k4 (.k2 (.d (.k (.i 146 (vi ((v50 + 1 : Nat) : Int)) .n))))))) ?_
      exact Vs.intro sy ⟨(v51, v50 + 1), rfl, h⟩
     intro k4 h
     refine q4 ?_
     refine sj ?_
     refine rk 1 (.k4 (.k4 (.k4 (.i 148 (vi v50) .n)))) ?_
     refine jo 149 (.iaddr 1 144 146) (ok_iaddr_o0 (j := v50) rfl rfl rfl rfl c20) ?_
     refine jo 150 (.load false 1 149) (ok_load_pm (l := v8) (e := vi) (v := vi (ix v8 v50)) rfl rfl c20 rfl) ?_
     refine jk 2 (.d2 (.k4 (.k4 (.k4 (.i 28 (vi v50) (.i 29 (vi (ix v8 v50)) .n)))))) ?_
     refine sj ?_
     refine rk 2 (.k4 (.k4 (.k4 (.d (.k (.i 151 (vk .u64 v46) (.i 152 (vi v50) .n))))))) ?_
     obtain ⟨c21, h⟩ := ck h
     refine jo 153 (.bin .shr false 151 152) (r_shr rfl rfl c21) ?_
     refine jk 2 (.d (.k4 (.k4 (.k4 (.k (.i 155 (vb ((iAnd .u64 (Int.fdiv v46 (2 ^ (min (v50 : Int).toNat 64))) 1) != (0 : Int))) .n)))))) ?_
     refine tc h (fun c22 h => ?_) (fun c22 h => ?_)
     ·refine q6 ?_
      refine rk 2 (.k4 (.k4 (.d (.k3 (.i 156 (vi v49) (.i 157 (vi (ix v8 v50)) .n)))))) ?_
      obtain ⟨c23, h⟩ := ck h
      refine jo 158 (.bin .add false 156 157) (r_add rfl rfl c23) ?_
      refine jk 1 (.d (.k4 (.k4 (.k3 (.i 27 (vi (v49 + (ix v8 v50))) .n))))) ?_
      exact Vs.intro Sees.refl ⟨(v49 + (ix v8 v50)), rfl, h⟩
     refine q2 ?_
     exact Vs.intro sy ⟨v49, rfl, h⟩
    refine q5 ?_
    exact Vs.intro sy ⟨v49, rfl, h⟩
   refine q5 ?_
   exact Vs.intro (sc [] (by decide) (by kernel_rfl) ObRen.nil rfl rfl) ⟨(v44, v45), rfl, h⟩
  intro k3 h
  refine sj ?_
  refine rk 1 (.k4 (.i 78 (eS 6 eTask a0) .n)) ?_
  refine jo 79 (.len 0 78) (ok_len_m rfl) ?_
  refine jk 1 (.d (.k4 (.k (.i 79 (vi (a0.length : Int)) (.i 80 (vi 0) .n))))) ?_
  refine q4 ?_
  refine TriE.sees (S' := ⟨[(0, eS 6 eTask a0), (2, eS 1 vt a2), (11, eS 6 eTask a0), (13, .ptr 0 0 0), (78, eS 6 eTask a0), (79, vi (a0.length : Int)), (80, vi 0)], [some (.row 3 [.agg [.own 2 0 ([] : List Int).length, .own 3 0 ([] : List (List Int)).length, .own 1 0 v8.length]]), some (.row 1 (List.map vi v8)), some (.row 1 (List.map (vk .u64) ([] : List Int))), some (.row 1 (List.map (eS 1 (vk .u64)) ([] : List (List Int))))]⟩) (Sees.trans (Sees.co (fr' := [(0, eS 6 eTask a0), (2, eS 1 vt a2), (11, eS 6 eTask a0), (13, .ptr 0 0 0), (78, eS 6 eTask a0), (79, vi (a0.length : Int)), (80, vi 0)]) (ob' := [some (.row 3 [.agg [.own 2 0 0, .emp, .own 1 0 v8.length]]), some (.row 1 (List.map vi v8))]) (.cons .same (.cons .same (.cons .same (.cons .same (.cons .same (.cons .same (.cons .same .nil))))))) (.cell (.cons .own (.cons .same (.cons .same .nil))) rfl (.same .nil)) 1) (Sees.trans (Sees.co (fr' := [(0, eS 6 eTask a0), (2, eS 1 vt a2), (11, eS 6 eTask a0), (13, .ptr 0 0 0), (78, eS 6 eTask a0), (79, vi (a0.length : Int)), (80, vi 0)]) (ob' := [some (.row 3 [.agg [.own 2 0 0, .own 3 0 0, .own 1 0 v8.length]]), some (.row 1 (List.map vi v8)), some (.row 1 (List.map (vk .u64) ([] : List Int)))]) (.cons .same (.cons .same (.cons .same (.cons .same (.cons .same (.cons .same (.cons .same .nil))))))) (.cell (.cons .same (.cons .own (.cons .same .nil))) rfl (.same (.same .nil))) 1) sy)) ?_
  refine TriE.loopN h (fun (t : Nat × (List Int) × (List (List Int))) => match t with | (v15, v16, v17) => St.mk [(0, eS 6 eTask a0), (2, eS 1 vt a2), (11, eS 6 eTask a0), (13, .ptr 0 0 0), (78, eS 6 eTask a0), (79, vi (a0.length : Int)), (80, vi v15)] [some (.row 3 [.agg [.own 2 0 v16.length, .own 3 0 v17.length, .own 1 0 v8.length]]), some (.row 1 (List.map vi v8)), some (.row 1 (List.map (vk .u64) v16)), some (.row 1 (List.map (eS 1 (vk .u64)) v17))]) rfl ?_
  clear h
  rintro back ⟨v15, v16, v17⟩ h
  dsimp only [restore_Cheapest_L3] at h
  refine sj ?_
  refine jo 81 (.bin .lss false 80 79) (n_lss (i := v15) (j := a0.length) rfl rfl) ?_
  refine jf (.d (.k4 (.k3 (.i 81 (vb (decide (v15 < a0.length))) .n)))) ?_
  refine q1 ?_
  refine tc h (fun c9 h => ?_) (fun c9 h => ?_)
  ·refine q2 ?_
   refine q7 ?_
   refine sj ?_
   refine jo 82 (.iaddr 6 78 80) (ok_iaddr_m (j := v15) rfl rfl rfl c9) ?_
   refine jo 83 (.load true 6 82) (ok_load_fm (v := .agg [vt ((ix a0 v15).Name), vi ((ix a0 v15).Cents), vi ((ix a0 v15).Hours), eS 1 vt ((ix a0 v15).Needs), eS 1 (eS 1 vt) ((ix a0 v15).OneOf), eS 2 ePartCount ((ix a0 v15).Parts)]) rfl c9 rfl) ?_
   refine jko 2 (.d2 (.k4 (.k3 (.i 19 (.ptr 4 0 0) .n)))) [some (.row 3 [.agg [.own 2 0 v16.length, .own 3 0 v17.length, .own 1 0 v8.length]]), some (.row 1 (List.map vi v8)), some (.row 1 (List.map (vk .u64) v16)), some (.row 1 (List.map (eS 1 (vk .u64)) v17)), some (.row 6 [.agg [vt ((ix a0 v15).Name), vi ((ix a0 v15).Cents), vi ((ix a0 v15).Hours), eS 1 vt ((ix a0 v15).Needs), eS 1 (eS 1 vt) ((ix a0 v15).OneOf), eS 2 ePartCount ((ix a0 v15).Parts)]])] ?_
   refine sk (.k4 (.k4 (.i 20 .emp .n))) ?_
   refine TriE.seqK h (fun (v22 : (List Int)) => St.mk [(0, eS 6 eTask a0), (2, eS 1 vt a2), (11, eS 6 eTask a0), (13, .ptr 0 0 0), (78, eS 6 eTask a0), (79, vi (a0.length : Int)), (80, vi v15), (19, .ptr 4 0 0), (20, .own 5 0 v22.length)] [some (.row 3 [.agg [.own 2 0 v16.length, .own 3 0 v17.length, .own 1 0 v8.length]]), some (.row 1 (List.map vi v8)), some (.row 1 (List.map (vk .u64) v16)), some (.row 1 (List.map (eS 1 (vk .u64)) v17)), some (.row 6 [.agg [vt ((ix a0 v15).Name), vi ((ix a0 v15).Cents), vi ((ix a0 v15).Hours), eS 1 vt ((ix a0 v15).Needs), eS 1 (eS 1 vt) ((ix a0 v15).OneOf), eS 2 ePartCount ((ix a0 v15).Parts)]]), some (.row 1 (List.map (vk .u64) v22))]) ?_ ?_
   ·rintro v22 h
    refine TriE.sees (Sees.freeze 5 (fr' := [(0, eS 6 eTask a0), (2, eS 1 vt a2), (11, eS 6 eTask a0), (13, .ptr 0 0 0), (78, eS 6 eTask a0), (79, vi (a0.length : Int)), (80, vi v15), (19, .ptr 4 0 0), (20, eS 1 (vk .u64) v22)]) (ob' := [some (.row 3 [.agg [.own 2 0 v16.length, .own 3 0 v17.length, .own 1 0 v8.length]]), some (.row 1 (List.map vi v8)), some (.row 1 (List.map (vk .u64) v16)), some (.row 1 (List.map (eS 1 (vk .u64)) v17)), some (.row 6 [.agg [vt ((ix a0 v15).Name), vi ((ix a0 v15).Cents), vi ((ix a0 v15).Hours), eS 1 vt ((ix a0 v15).Needs), eS 1 (eS 1 vt) ((ix a0 v15).OneOf), eS 2 ePartCount ((ix a0 v15).Parts)]]), none]) rfl (frz_row (vk_frzE .u64) _) (.cons (.refl _) (.cons (.refl _) (.cons (.refl _) (.cons (.refl _) (.cons (.refl _) (.cons (.refl _) (.cons (.refl _) (.cons (.refl _) (.cons (frz_full rfl) .nil))))))))) rfl) ?_
    refine ts .a ?_
    refine TriE.draw (by kernel_rfl) ?_
    refine dk 9 (.i 106 (eS 1 vt ((ix a0 v15).Needs)) (.i 105 (.ptr 4 0 3) (.i 104 (eS 6 eTask a0) (.i 103 (.own 2 0 v16.length) (.i 102 (.ptr 0 0 0) (.i 101 (.ptr 0 0 0) (.i 100 (.ptr 0 0 0) (.i 99 (.ptr 0 0 0) (.i 98 (.ptr 0 0 0) .a))))))))) ?_
    obtain ⟨y23, hy23, h⟩ := bs h
    refine dc (vk .u64 y23) 0 107 [104, 106] (restore_list_bits_ok n a0 ((ix a0 v15).Needs) y23 hy23) [] rfl ObsRen.nil ObsRen.nil rfl (.inr ⟨rfl, rfl⟩) ?_
    refine dko 1 (.i 108 (.own 16 0 1) .a) [some (.row 3 [.agg [.own 2 0 v16.length, .own 3 0 v17.length, .own 1 0 v8.length]]), some (.row 1 (List.map vi v8)), some (.row 1 (List.map (vk .u64) v16)), some (.row 1 (List.map (eS 1 (vk .u64)) v17)), some (.row 6 [.agg [vt ((ix a0 v15).Name), vi ((ix a0 v15).Cents), vi ((ix a0 v15).Hours), eS 1 vt ((ix a0 v15).Needs), eS 1 (eS 1 vt) ((ix a0 v15).OneOf), eS 2 ePartCount ((ix a0 v15).Parts)]]), none, none, none, none, none, none, none, none, none, none, none, some (.row 1 [vk .u64 y23])] ?_
    obtain ⟨c14, h⟩ := ck h
    refine dx 109 (.app 1 8 103 108) _ (ok_app_own (l := v16) (l2 := ([y23] : List Int)) (e := (vk .u64)) (u := .own 16 0 1) rfl rfl rfl rfl rfl c14) rfl rfl ?_
    refine dko 6 (.i 115 (.own 23 0 1) (.i 114 (eS 1 (vk .u64) v22) (.i 113 (.own 3 0 v17.length) (.i 112 (.ptr 0 0 1) (.i 111 (.ptr 0 0 0) (.i 110 (.ptr 0 0 0) .a)))))) [some (.row 3 [.agg [.own 2 0 v16.length, .own 3 0 v17.length, .own 1 0 v8.length]]), some (.row 1 (List.map vi v8)), none, some (.row 1 (List.map (eS 1 (vk .u64)) v17)), some (.row 6 [.agg [vt ((ix a0 v15).Name), vi ((ix a0 v15).Cents), vi ((ix a0 v15).Hours), eS 1 vt ((ix a0 v15).Needs), eS 1 (eS 1 vt) ((ix a0 v15).OneOf), eS 2 ePartCount ((ix a0 v15).Parts)]]), none, none, none, none, none, none, none, none, none, none, none, some (.row 1 [vk .u64 y23]), some (.row 1 (List.map (vk .u64) (v16 ++ ([y23] : List Int)))), none, none, none, none, none, some (.row 1 [eS 1 (vk .u64) v22])] ?_
    obtain ⟨c15, h⟩ := ck h
    refine dx 116 (.app 1 24 113 115) _ (ok_app_own (l := v17) (l2 := ([v22] : List (List Int))) (e := (eS 1 (vk .u64))) (u := .own 23 0 1) rfl rfl rfl rfl rfl c15) rfl rfl ?_
    refine dko 6 (.i 120 (.ptr 0 0 1) (.i 119 (.ptr 0 0 0) (.i 118 (.ptr 0 0 0) (.i 117 (.ptr 0 0 0) .a)))) [some (.row 3 [.agg [.own 17 0 ((v16 ++ ([y23] : List Int)).length), .own 24 0 ((v17 ++ ([v22] : List (List Int))).length), .own 1 0 v8.length]]), some (.row 1 (List.map vi v8)), none, none, some (.row 6 [.agg [vt ((ix a0 v15).Name), vi ((ix a0 v15).Cents), vi ((ix a0 v15).Hours), eS 1 vt ((ix a0 v15).Needs), eS 1 (eS 1 vt) ((ix a0 v15).OneOf), eS 2 ePartCount ((ix a0 v15).Parts)]]), none, none, none, none, none, none, none, none, none, none, none, some (.row 1 [vk .u64 y23]), some (.row 1 (List.map (vk .u64) (v16 ++ ([y23] : List Int)))), none, none, none, none, none, some (.row 1 [eS 1 (vk .u64) v22]), some (.row 1 (List.map (eS 1 (vk .u64)) (v17 ++ ([v22] : List (List Int))))), none, none, none, none, none, none] ?_
    refine dfi (ob' := [some (.row 3 [.agg [.own 2 0 ((v16 ++ ([y23] : List Int)).length), .own 3 0 ((v17 ++ ([v22] : List (List Int))).length), .own 1 0 v8.length]]), some (.row 1 (List.map vi v8)), some (.row 1 (List.map (vk .u64) (v16 ++ ([y23] : List Int)))), some (.row 1 (List.map (eS 1 (vk .u64)) (v17 ++ ([v22] : List (List Int)))))]) (.d4 (.d4 (.d4 (.d4 (.d4 (.d3 (.k4 (.k3 .n)))))))) [0, 1, 17, 24] (.cons rfl (obRen_row vi_frz rfl (obRen_row (vk_frz .u64) rfl (obRen_row (eS_frz 1 (vk .u64)) rfl .nil)))) ?_
    refine q6 ?_
    obtain ⟨c16, h⟩ := ck h
    refine jo 121 (.bin .add false 80 (ki 1)) (r_addn (i := v15) (j := 1) rfl rfl c16) ?_
    refine jk 1 (.d (.k4 (.k2 (.i 80 (vi ((v15 + 1 : Nat) : Int)) .n)))) ?_
    exact Vs.intro sy ⟨(v15 + 1, (v16 ++ ([y23] : List Int)), (v17 ++ ([v22] : List (List Int)))), rfl, h⟩
   intro k2 h
   refine sj ?_
   refine rk 2 (.k4 (.k4 (.k (.i 85 (eS 1 (eS 1 vt) ((ix a0 v15).OneOf)) .n)))) ?_
   refine jo 86 (.len 0 85) (ok_len_m rfl) ?_
   refine jk 1 (.d (.k4 (.k4 (.k2 (.i 86 (vi ((((ix a0 v15).OneOf).length : Nat) : Int)) (.i 87 (vi 0) .n)))))) ?_
   refine q4 ?_
   refine TriE.sees (S' := ⟨[(0, eS 6 eTask a0), (2, eS 1 vt a2), (11, eS 6 eTask a0), (13, .ptr 0 0 0), (78, eS 6 eTask a0), (79, vi (a0.length : Int)), (80, vi v15), (19, .ptr 4 0 0), (20, .own 5 0 ([] : List Int).length), (85, eS 1 (eS 1 vt) ((ix a0 v15).OneOf)), (86, vi ((((ix a0 v15).OneOf).length : Nat) : Int)), (87, vi 0)], [some (.row 3 [.agg [.own 2 0 v16.length, .own 3 0 v17.length, .own 1 0 v8.length]]), some (.row 1 (List.map vi v8)), some (.row 1 (List.map (vk .u64) v16)), some (.row 1 (List.map (eS 1 (vk .u64)) v17)), some (.row 6 [.agg [vt ((ix a0 v15).Name), vi ((ix a0 v15).Cents), vi ((ix a0 v15).Hours), eS 1 vt ((ix a0 v15).Needs), eS 1 (eS 1 vt) ((ix a0 v15).OneOf), eS 2 ePartCount ((ix a0 v15).Parts)]]), some (.row 1 (List.map (vk .u64) ([] : List Int)))]⟩) (Sees.trans (Sees.co (fr' := [(0, eS 6 eTask a0), (2, eS 1 vt a2), (11, eS 6 eTask a0), (13, .ptr 0 0 0), (78, eS 6 eTask a0), (79, vi (a0.length : Int)), (80, vi v15), (19, .ptr 4 0 0), (20, .own 5 0 0), (85, eS 1 (eS 1 vt) ((ix a0 v15).OneOf)), (86, vi ((((ix a0 v15).OneOf).length : Nat) : Int)), (87, vi 0)]) (ob' := [some (.row 3 [.agg [.own 2 0 v16.length, .own 3 0 v17.length, .own 1 0 v8.length]]), some (.row 1 (List.map vi v8)), some (.row 1 (List.map (vk .u64) v16)), some (.row 1 (List.map (eS 1 (vk .u64)) v17)), some (.row 6 [.agg [vt ((ix a0 v15).Name), vi ((ix a0 v15).Cents), vi ((ix a0 v15).Hours), eS 1 vt ((ix a0 v15).Needs), eS 1 (eS 1 vt) ((ix a0 v15).OneOf), eS 2 ePartCount ((ix a0 v15).Parts)]])]) (.cons .same (.cons .same (.cons .same (.cons .same (.cons .same (.cons .same (.cons .same (.cons .same (.cons .own (.cons .same (.cons .same (.cons .same .nil)))))))))))) (.same (.same (.same (.same (.same .nil))))) 1) sy) ?_
   refine TriE.loopN h (fun (t : (List Int) × Nat) => match t with | (v19, v20) => St.mk [(0, eS 6 eTask a0), (2, eS 1 vt a2), (11, eS 6 eTask a0), (13, .ptr 0 0 0), (78, eS 6 eTask a0), (79, vi (a0.length : Int)), (80, vi v15), (19, .ptr 4 0 0), (20, .own 5 0 v19.length), (85, eS 1 (eS 1 vt) ((ix a0 v15).OneOf)), (86, vi ((((ix a0 v15).OneOf).length : Nat) : Int)), (87, vi v20)] [some (.row 3 [.agg [.own 2 0 v16.length, .own 3 0 v17.length, .own 1 0 v8.length]]), some (.row 1 (List.map vi v8)), some (.row 1 (List.map (vk .u64) v16)), some (.row 1 (List.map (eS 1 (vk .u64)) v17)), some (.row 6 [.agg [vt ((ix a0 v15).Name), vi ((ix a0 v15).Cents), vi ((ix a0 v15).Hours), eS 1 vt ((ix a0 v15).Needs), eS 1 (eS 1 vt) ((ix a0 v15).OneOf), eS 2 ePartCount ((ix a0 v15).Parts)]]), some (.row 1 (List.map (vk .u64) v19))]) rfl ?_
   clear h
   rintro back ⟨v19, v20⟩ h
   dsimp only [restore_Cheapest_L2] at h
   refine sj ?_
   refine jo 88 (.bin .lss false 87 86) (n_lss (i := v20) (j := ((ix a0 v15).OneOf).length) rfl rfl) ?_
   refine jf (.d (.k4 (.k4 (.k4 (.i 88 (vb (decide (v20 < (((ix a0 v15).OneOf).length)))) .n))))) ?_
   refine q1 ?_
   refine tc h (fun c10 h => ?_) (fun c10 h => ?_)
   ·refine q2 ?_
    refine q7 ?_
    refine sj ?_
    obtain ⟨c11, h⟩ := ck h
    refine jo 89 (.iaddr 1 85 87) (ok_iaddr_m (j := v20) rfl rfl rfl c11) ?_
    refine jo 90 (.load false 1 89) (ok_load_fm (v := eS 1 vt (ix ((ix a0 v15).OneOf) v20)) rfl c11 rfl) ?_
    refine jk 1 (.d2 (.k4 (.k4 (.k4 (.i 22 (eS 1 vt (ix ((ix a0 v15).OneOf) v20)) .n))))) ?_
    refine q6 ?_
    refine rk 3 (.k4 (.k4 (.d (.k3 (.i 91 (.own 5 0 v19.length) (.i 92 (eS 6 eTask a0) (.i 93 (eS 1 vt (ix ((ix a0 v15).OneOf) v20)) .n))))))) ?_
    obtain ⟨y21, hy21, h⟩ := bs h
    refine jc 94 [92, 93] (restore_list_bits_ok n a0 (ix ((ix a0 v15).OneOf) v20) y21 hy21) ?_
    refine rko 1 (.d (.k4 (.k4 (.k4 (.i 95 (.own 6 0 1) .n))))) [some (.row 3 [.agg [.own 2 0 v16.length, .own 3 0 v17.length, .own 1 0 v8.length]]), some (.row 1 (List.map vi v8)), some (.row 1 (List.map (vk .u64) v16)), some (.row 1 (List.map (eS 1 (vk .u64)) v17)), some (.row 6 [.agg [vt ((ix a0 v15).Name), vi ((ix a0 v15).Cents), vi ((ix a0 v15).Hours), eS 1 vt ((ix a0 v15).Needs), eS 1 (eS 1 vt) ((ix a0 v15).OneOf), eS 2 ePartCount ((ix a0 v15).Parts)]]), some (.row 1 (List.map (vk .u64) v19)), some (.row 1 [vk .u64 y21])] ?_
    obtain ⟨c12, h⟩ := ck h
    refine jx 96 (.app 1 8 91 95) _ (ok_app_own (l := v19) (l2 := ([y21] : List Int)) (e := (vk .u64)) (u := .own 6 0 1) rfl rfl rfl rfl rfl c12) rfl rfl ?_
    refine jk 1 (.d (.k4 (.k4 (.k3 (.i 20 (.own 7 0 ((v19 ++ ([y21] : List Int)).length)) .n))))) ?_
    refine q6 ?_
    obtain ⟨c13, h⟩ := ck h
    refine jo 97 (.bin .add false 87 (ki 1)) (r_addn (i := v20) (j := 1) rfl rfl c13) ?_
    refine jk 1 (.d (.k4 (.k4 (.k2 (.d (.k (.i 87 (vi ((v20 + 1 : Nat) : Int)) .n))))))) ?_
    exact Vs.intro (sc [0, 1, 2, 3, 4, 7] (by decide) (by kernel_rfl) (.cons rfl (obRen_row vi_frz rfl (obRen_row (vk_frz .u64) rfl (obRen_row (eS_frz 1 (vk .u64)) rfl (.cons rfl (obRen_row (vk_frz .u64) rfl .nil)))))) rfl rfl) ⟨((v19 ++ ([y21] : List Int)), v20 + 1), rfl, h⟩
   refine q5 ?_
   exact Vs.intro sy ⟨v19, rfl, h⟩
  refine q5 ?_
  exact Vs.intro sy ⟨(v17, v16), rfl, h⟩
 intro k1 h
 refine sj ?_
 refine rk 1 (.k4 (.k (.i 50 (eS 6 eTask a0) .n))) ?_
 refine jo 51 (.len 0 50) (ok_len_m rfl) ?_
 refine jk 1 (.d (.k4 (.k2 (.i 51 (vi (a0.length : Int)) (.i 52 (vi 0) .n))))) ?_
 refine q4 ?_
 refine TriE.sees (S' := ⟨[(0, eS 6 eTask a0), (1, eS 3 eStocked a1), (2, eS 1 vt a2), (11, eS 6 eTask a0), (13, .ptr 0 0 0), (50, eS 6 eTask a0), (51, vi (a0.length : Int)), (52, vi 0)], [some (.row 3 [.agg [.emp, .emp, .own 1 0 ([] : List Int).length]]), some (.row 1 (List.map vi ([] : List Int)))]⟩) (Sees.trans (Sees.co (fr' := [(0, eS 6 eTask a0), (1, eS 3 eStocked a1), (2, eS 1 vt a2), (11, eS 6 eTask a0), (13, .ptr 0 0 0), (50, eS 6 eTask a0), (51, vi (a0.length : Int)), (52, vi 0)]) (ob' := [some (.row 3 [.agg [.emp, .emp, .own 1 0 0]])]) (.cons .same (.cons .same (.cons .same (.cons .same (.cons .same (.cons .same (.cons .same (.cons .same .nil)))))))) (.cell (.cons .same (.cons .same (.cons .own .nil))) rfl .nil) 1) sy) ?_
 refine TriE.loopN h (fun (t : Nat × (List Int)) => match t with | (v5, v6) => St.mk [(0, eS 6 eTask a0), (1, eS 3 eStocked a1), (2, eS 1 vt a2), (11, eS 6 eTask a0), (13, .ptr 0 0 0), (50, eS 6 eTask a0), (51, vi (a0.length : Int)), (52, vi v5)] [some (.row 3 [.agg [.emp, .emp, .own 1 0 v6.length]]), some (.row 1 (List.map vi v6))]) rfl ?_
 clear h
 rintro back ⟨v5, v6⟩ h
 dsimp only [restore_Cheapest_L1] at h
 refine sj ?_
 refine jo 53 (.bin .lss false 52 51) (n_lss (i := v5) (j := a0.length) rfl rfl) ?_
 refine jf (.d (.k4 (.k4 (.i 53 (vb (decide (v5 < a0.length))) .n)))) ?_
 refine q1 ?_
 refine tc h (fun c4 h => ?_) (fun c4 h => ?_)
 ·refine q2 ?_
  refine q7 ?_
  refine sj ?_
  refine jo 54 (.iaddr 6 50 52) (ok_iaddr_m (j := v5) rfl rfl rfl c4) ?_
  refine jo 55 (.load true 6 54) (ok_load_fm (v := .agg [vt ((ix a0 v5).Name), vi ((ix a0 v5).Cents), vi ((ix a0 v5).Hours), eS 1 vt ((ix a0 v5).Needs), eS 1 (eS 1 vt) ((ix a0 v5).OneOf), eS 2 ePartCount ((ix a0 v5).Parts)]) rfl c4 rfl) ?_
  refine jko 2 (.d2 (.k4 (.k4 (.i 15 (.ptr 2 0 0) .n)))) [some (.row 3 [.agg [.emp, .emp, .own 1 0 v6.length]]), some (.row 1 (List.map vi v6)), some (.row 6 [.agg [vt ((ix a0 v5).Name), vi ((ix a0 v5).Cents), vi ((ix a0 v5).Hours), eS 1 vt ((ix a0 v5).Needs), eS 1 (eS 1 vt) ((ix a0 v5).OneOf), eS 2 ePartCount ((ix a0 v5).Parts)]])] ?_
  refine sj ?_
  refine rk 2 (.k4 (.k4 (.i 57 (.agg [vt ((ix a0 v5).Name), vi ((ix a0 v5).Cents), vi ((ix a0 v5).Hours), eS 1 vt ((ix a0 v5).Needs), eS 1 (eS 1 vt) ((ix a0 v5).OneOf), eS 2 ePartCount ((ix a0 v5).Parts)]) (.i 58 (eS 3 eStocked a1) .n)))) ?_
  obtain ⟨y7, hy7, h⟩ := bs h
  refine jc 59 [57, 58] (restore_costOf_ok n (ix a0 v5) a1 y7 hy7) ?_
  refine jk 5 (.d (.k4 (.k4 (.i 16 (vi y7.1) (.i 17 (vb y7.2) .n))))) ?_
  refine q1 ?_
  refine sk (.k4 (.k4 (.k (.i 63 (vb (!y7.2)) .n)))) ?_
  refine tc h (fun c5 h => ?_) (fun c5 h => ?_)
  ·refine sk (.i 6 .emp (.i 7 (vi 0) (.i 8 (vi 6) .n))) ?_
   refine q3 ?_
   have h := si h
   subst h
   exact DoneS.ret (S' := ⟨[(6, eS 1 vt ([] : List Str)), (7, vi 0), (8, vi 6)], []⟩) (Sees.trans (Sees.vco (fr' := [(6, eS 1 vt ([] : List Str)), (7, vi 0), (8, vi 6)]) (.cons .sl (.cons .same (.cons .same .nil)))) (sc [] (by decide) (by kernel_rfl) ObRen.nil rfl rfl)) rfl rfl
  refine q2 ?_
  refine q6 ?_
  refine rko 7 (.k4 (.k4 (.i 64 (.ptr 0 0 0) (.i 68 (.own 1 0 v6.length) (.i 70 (.own 3 0 1) .n))))) [some (.row 3 [.agg [.emp, .emp, .own 1 0 v6.length]]), some (.row 1 (List.map vi v6)), some (.row 6 [.agg [vt ((ix a0 v5).Name), vi ((ix a0 v5).Cents), vi ((ix a0 v5).Hours), eS 1 vt ((ix a0 v5).Needs), eS 1 (eS 1 vt) ((ix a0 v5).OneOf), eS 2 ePartCount ((ix a0 v5).Parts)]]), some (.row 1 [vi y7.1])] ?_
  obtain ⟨c6, h⟩ := ck h
  refine jx 71 (.app 1 8 68 70) _ (ok_app_own (l := v6) (l2 := ([y7.1] : List Int)) (e := vi) (u := .own 3 0 1) rfl rfl rfl rfl rfl c6) rfl rfl ?_
  refine jko 3 (.d (.k4 (.k4 .n))) [some (.row 3 [.agg [.emp, .emp, .own 4 0 ((v6 ++ ([y7.1] : List Int)).length)]]), none, some (.row 6 [.agg [vt ((ix a0 v5).Name), vi ((ix a0 v5).Cents), vi ((ix a0 v5).Hours), eS 1 vt ((ix a0 v5).Needs), eS 1 (eS 1 vt) ((ix a0 v5).OneOf), eS 2 ePartCount ((ix a0 v5).Parts)]]), some (.row 1 [vi y7.1]), some (.row 1 (List.map vi (v6 ++ ([y7.1] : List Int))))] ?_
  refine q6 ?_
  obtain ⟨c7, h⟩ := ck h
  refine jo 74 (.bin .add false 52 (ki 1)) (r_addn (i := v5) (j := 1) rfl rfl c7) ?_
  refine jk 1 (.d (.k4 (.k3 (.i 52 (vi ((v5 + 1 : Nat) : Int)) .n)))) ?_
  exact Vs.intro (sc [0, 4] (by decide) (by kernel_rfl) (.cons rfl (obRen_row vi_frz rfl .nil)) rfl rfl) ⟨(v5 + 1, (v6 ++ ([y7.1] : List Int))), rfl, h⟩
 refine q5 ?_
 exact Vs.intro sy ⟨v6, rfl, h⟩
theorem slices_IndexFunc_Finding_2_ok (n : Nat) (a0 : List Finding) (a1 : Str) (a2 : List Str) (r : Int) (h : slices_IndexFunc_Finding_2 n a0 a1 a2 = some r) : FnL Tryz.prog 157 [eS 2 eFinding a0, .fn (.func 92) [] [.ptr 0 0 0]] [some (.row 2 [.agg [vt a1, eS 1 vt a2]])] (vi r) [some (.row 2 [.agg [vt a1, eS 1 vt a2]])] := by
 dsimp only [slices_IndexFunc_Finding_2] at h
 refine fob [4] Tryz.call157 Tryz.func157 rfl (.cons rfl .nil) ?_
 refine sk .a ?_
 refine TriE.seqK h (fun (_ : Unit) => St.mk [] [some (.row 2 [.agg [vt a1, eS 1 vt a2]])]) ?_ ?_
 ·rintro ⟨⟩ h
  refine sk (.i 4 (vi (-1)) .n) ?_
  refine q3 ?_
  have h := si h
  subst h
  exact DoneS.ret Sees.refl rfl rfl
 intro k1 h
 refine sj ?_
 refine rk 1 (.k2 (.i 6 (eS 2 eFinding a0) .n)) ?_
 refine jo 7 (.len 0 6) (ok_len_m rfl) ?_
 refine jk 1 (.d (.k2 (.i 7 (vi (a0.length : Int)) (.i 8 (vi 0) .n)))) ?_
 refine q4 ?_
 refine ts (.k3 (.i 8 (vi 0) .n)) ?_
 refine TriE.loopN h (fun (v2 : Nat) => St.mk [(0, eS 2 eFinding a0), (1, .fn (.func 92) [] [.ptr 0 0 0]), (7, vi (a0.length : Int)), (8, vi v2)] [some (.row 2 [.agg [vt a1, eS 1 vt a2]])]) rfl ?_
 clear h
 rintro back v2 h
 dsimp only [slices_IndexFunc_Finding_2_L1] at h
 refine sj ?_
 refine jo 9 (.bin .lss false 8 7) (n_lss (i := v2) (j := a0.length) rfl rfl) ?_
 refine jf (.d (.k4 (.i 9 (vb (decide (v2 < a0.length))) .n))) ?_
 refine q1 ?_
 refine tc h (fun c1 h => ?_) (fun c1 h => ?_)
 ·refine q2 ?_
  refine q7 ?_
  refine sk (.k4 (.i 5 (vi v2) .n)) ?_
  refine sj ?_
  refine rk 3 (.k4 (.k (.i 11 (.fn (.func 92) [] [.ptr 0 0 0]) (.i 12 (eS 2 eFinding a0) (.i 13 (vi v2) .n))))) ?_
  refine jo 14 (.iaddr 2 12 13) (ok_iaddr_m (j := v2) rfl rfl rfl c1) ?_
  refine jo 15 (.load true 2 14) (ok_load_fm (v := .agg [vt ((ix a0 v2).Name), eS 1 vt ((ix a0 v2).Tasks)]) rfl c1 rfl) ?_
  obtain ⟨y3, hy3, h⟩ := bs h
  refine jy (vb ((ix a0 v2).Name == a1)) 16 11 [15] rfl (restore_CheckFindings_f1_ok n (ix a0 v2) a1 a2 y3 hy3) [0] rfl (.cons rfl .nil) (.cons rfl .nil) rfl ?_
  refine jf (.d3 (.k4 (.k (.i 16 (vb ((ix a0 v2).Name == a1)) .n)))) ?_
  refine tc h (fun c2 h => ?_) (fun c2 h => ?_)
  ·refine sk (.i 4 (vi v2) .n) ?_
   refine q3 ?_
   have h := si h
   subst h
   exact DoneS.ret Sees.refl rfl rfl
  refine q2 ?_
  refine q6 ?_
  obtain ⟨c3, h⟩ := ck h
  refine jo 18 (.bin .add false 8 (ki 1)) (r_addn (i := v2) (j := 1) rfl rfl c3) ?_
  refine jk 1 (.d (.k3 (.i 8 (vi ((v2 + 1 : Nat) : Int)) .n))) ?_
  exact Vs.intro sy ⟨(v2 + 1), rfl, h⟩
 refine q5 ?_
 exact Vs.intro sy ⟨(), rfl, h⟩
theorem slices_ContainsFunc_Finding_2_ok (n : Nat) (a0 : List Finding) (a1 : Str) (a2 : List Str) (r : Bool) (h : slices_ContainsFunc_Finding_2 n a0 a1 a2 = some r) : FnL Tryz.prog 91 [eS 2 eFinding a0, .fn (.func 92) [] [.ptr 0 0 0]] [some (.row 2 [.agg [vt a1, eS 1 vt a2]])] (vb r) [some (.row 2 [.agg [vt a1, eS 1 vt a2]])] := by
 dsimp only [slices_ContainsFunc_Finding_2] at h
 refine fob [4] Tryz.call91 Tryz.func91 rfl (.cons rfl .nil) ?_
 refine sk .a ?_
 refine sj ?_
 refine rk 2 (.i 5 (eS 2 eFinding a0) (.i 6 (.fn (.func 92) [] [.ptr 0 0 0]) .n)) ?_
 obtain ⟨y1, hy1, h⟩ := bs h
 refine jco (vi y1) 7 [5, 6] (slices_IndexFunc_Finding_2_ok n a0 a1 a2 y1 hy1) [0] rfl (.cons rfl .nil) (.cons rfl .nil) rfl ?_
 refine jk 2 (.i 4 (vb (decide ((0 : Int) ≤ y1))) .n) ?_
 refine q3 ?_
 have h := si h
 subst h
 exact DoneS.ret Sees.refl rfl rfl
set_option maxHeartbeats 1000000 in
theorem restore_CheckFindings_2_ok (n : Nat) (a0 : List Task) (a1 : List Finding) (r : Int) (h : restore_CheckFindings_2 n a0 a1 = some r) : FnL Tryz.prog 26 [eS 6 eTask a0, eS 2 eFinding a1] [] (vi r) [] := by
 dsimp only [restore_CheckFindings_2] at h
 refine fo [4] Tryz.call26 Tryz.func26 rfl ?_
 refine sk .a ?_
 refine q1 ?_
 refine sj ?_
 refine rk 1 (.k2 (.i 9 (eS 6 eTask a0) .n)) ?_
 obtain ⟨y1, hy1, h⟩ := bs h
 refine jc 10 [9] (restore_CheckTasks_ok n a0 y1 hy1) ?_
 refine jk 1 (.d (.k2 (.i 5 (vi y1) .n))) ?_
 refine sk (.k3 (.i 12 (vb (y1 != (0 : Int))) .n)) ?_
 refine tc h (fun c1 h => ?_) (fun c1 h => ?_)
 ·refine sk (.i 4 (vi y1) .n) ?_
  refine q3 ?_
  have h := si h
  subst h
  exact DoneS.ret Sees.refl rfl rfl
 refine q2 ?_
 refine q1 ?_
 refine sj ?_
 refine rk 1 (.k2 (.i 14 (eS 2 eFinding a1) .n)) ?_
 refine jo 15 (.len 0 14) (ok_len_m rfl) ?_
 refine jo 16 (.bin .gtr false 15 (ki 40)) (n_gtr (i := a1.length) (j := 40) rfl rfl) ?_
 refine jf (.d2 (.k2 (.i 16 (vb (decide (40 < a1.length))) .n))) ?_
 refine tc h (fun c2 h => ?_) (fun c2 h => ?_)
 ·refine sk (.i 4 (vi 8) .n) ?_
  refine q3 ?_
  have h := si h
  subst h
  exact DoneS.ret Sees.refl rfl rfl
 refine q2 ?_
 refine TriE.seqK h (fun (_ : Unit) => St.mk [] []) ?_ ?_
 ·rintro ⟨⟩ h
  refine sk (.i 4 (vi 0) .n) ?_
  refine q3 ?_
  have h := si h
  subst h
  exact DoneS.ret Sees.refl rfl rfl
 intro k1 h
 refine sj ?_
 refine rk 1 (.k2 (.i 17 (eS 2 eFinding a1) .n)) ?_
 refine jo 18 (.len 0 17) (ok_len_m rfl) ?_
 refine jk 1 (.d (.k3 (.i 18 (vi (a1.length : Int)) (.i 19 (vi 0) .n)))) ?_
 refine q4 ?_
 refine ts (.k4 (.i 19 (vi 0) .n)) ?_
 refine TriE.loopN h (fun (v5 : Nat) => St.mk [(0, eS 6 eTask a0), (1, eS 2 eFinding a1), (17, eS 2 eFinding a1), (18, vi (a1.length : Int)), (19, vi v5)] []) rfl ?_
 clear h
 rintro back v5 h
 dsimp only [restore_CheckFindings_2_L1] at h
 refine sj ?_
 refine jo 20 (.bin .lss false 19 18) (n_lss (i := v5) (j := a1.length) rfl rfl) ?_
 refine jf (.d (.k4 (.k (.i 20 (vb (decide (v5 < a1.length))) .n)))) ?_
 refine q1 ?_
 refine tc h (fun c3 h => ?_) (fun c3 h => ?_)
 ·refine q2 ?_
  refine q7 ?_
  refine sj ?_
  refine rk 1 (.k4 (.k (.i 21 (vi v5) .n))) ?_
  refine jo 22 (.iaddr 2 17 19) (ok_iaddr_m (j := v5) rfl rfl rfl c3) ?_
  refine jo 23 (.load true 2 22) (ok_load_fm (v := .agg [vt ((ix a1 v5).Name), eS 1 vt ((ix a1 v5).Tasks)]) rfl c3 rfl) ?_
  refine jko 3 (.d2 (.k4 (.k (.i 7 (.ptr 0 0 0) (.i 6 (vi v5) .n))))) [some (.row 2 [.agg [vt ((ix a1 v5).Name), eS 1 vt ((ix a1 v5).Tasks)]])] ?_
  refine q7 ?_
  refine sj ?_
  refine rk 2 (.k4 (.k3 (.i 26 (vt ((ix a1 v5).Name)) .n))) ?_
  obtain ⟨y6, hy6, h⟩ := bs h
  refine jc 27 [26] (restore_isName_ok n ((ix a1 v5).Name) y6 hy6) ?_
  refine jk 2 (.d (.k4 (.k3 (.i 24 (vb (!y6)) .n)))) ?_
  refine tc h (fun c4 h => ?_) (fun c4 h => ?_)
  ·refine sk (.i 4 (vi 4) .n) ?_
   refine q3 ?_
   have h := si h
   subst h
   exact DoneS.ret (S' := ⟨[(4, vi 4)], []⟩) (sc [] (by decide) (by kernel_rfl) ObRen.nil rfl rfl) rfl rfl
  refine sj ?_
  refine rk 2 (.k4 (.k2 (.i 30 (eS 2 eFinding a1) (.i 31 (vi v5) .n)))) ?_
  obtain ⟨c5, h⟩ := ck h
  refine jo 32 (.slc 2 30 none (some 31) none) (ok_slc_hi (j := v5) rfl rfl rfl c5) ?_
  refine rk 1 (.d (.k4 (.k2 (.i 32 (eS 2 eFinding (List.take v5 a1)) (.i 33 (.fn (.func 92) [] [.ptr 0 0 0]) .n))))) ?_
  obtain ⟨y7, hy7, h⟩ := bs h
  refine jco (vb y7) 34 [32, 33] (slices_ContainsFunc_Finding_2_ok n (List.take v5 a1) ((ix a1 v5).Name) ((ix a1 v5).Tasks) y7 hy7) [0] rfl (.cons rfl .nil) (.cons rfl .nil) rfl ?_
  refine jk 1 (.d (.k4 (.k2 (.i 29 (vb y7) .n)))) ?_
  refine tc h (fun c6 h => ?_) (fun c6 h => ?_)
  ·refine sk (.i 4 (vi 5) .n) ?_
   refine q3 ?_
   have h := si h
   subst h
   exact DoneS.ret (S' := ⟨[(4, vi 5)], []⟩) (sc [] (by decide) (by kernel_rfl) ObRen.nil rfl rfl) rfl rfl
  refine sj ?_
  refine rk 2 (.k4 (.k2 (.i 37 (eS 1 vt ((ix a1 v5).Tasks)) .n))) ?_
  refine jo 38 (.len 0 37) (ok_len_m rfl) ?_
  refine jo 39 (.bin .gtr false 38 (ki 20)) (n_gtr (i := ((ix a1 v5).Tasks).length) (j := 20) rfl rfl) ?_
  refine jk 1 (.d2 (.k4 (.k2 (.i 35 (vb (decide (20 < (((ix a1 v5).Tasks).length)))) .n)))) ?_
  refine tc h (fun c7 h => ?_) (fun c7 h => ?_)
  ·refine sk (.i 4 (vi 8) .n) ?_
   refine q3 ?_
   have h := si h
   subst h
   exact DoneS.ret (S' := ⟨[(4, vi 8)], []⟩) (sc [] (by decide) (by kernel_rfl) ObRen.nil rfl rfl) rfl rfl
  refine q2 ?_
  refine sj ?_
  refine rk 3 (.k4 (.k (.i 40 (eS 6 eTask a0) (.i 42 (eS 1 vt ((ix a1 v5).Tasks)) .n)))) ?_
  obtain ⟨y8, hy8, h⟩ := bs h
  refine jc 43 [40, 42] (restore_list_known_ok n a0 ((ix a1 v5).Tasks) y8 hy8) ?_
  refine jk 1 (.d (.k4 (.k (.i 8 (vi y8) .n)))) ?_
  refine sk (.k4 (.k2 (.i 45 (vb (y8 != (0 : Int))) .n))) ?_
  refine tc h (fun c8 h => ?_) (fun c8 h => ?_)
  ·refine sk (.i 4 (vi y8) .n) ?_
   refine q3 ?_
   have h := si h
   subst h
   exact DoneS.ret (S' := ⟨[(4, vi y8)], []⟩) (sc [] (by decide) (by kernel_rfl) ObRen.nil rfl rfl) rfl rfl
  refine q2 ?_
  refine q6 ?_
  obtain ⟨c9, h⟩ := ck h
  refine jo 47 (.bin .add false 19 (ki 1)) (r_addn (i := v5) (j := 1) rfl rfl c9) ?_
  refine jk 1 (.d (.k4 (.i 19 (vi ((v5 + 1 : Nat) : Int)) .n))) ?_
  exact Vs.intro (sc [] (by decide) (by kernel_rfl) ObRen.nil rfl rfl) ⟨(v5 + 1), rfl, h⟩
 refine q5 ?_
 exact Vs.intro sy ⟨(), rfl, h⟩
set_option maxHeartbeats 1000000 in
theorem slices_Compact_string_ok (n : Nat) (a0 : List Str) (r : (List Str)) (h : slices_Compact_string n a0 = some r) : FnL Tryz.prog 96 [.own 0 0 a0.length] [some (.row 1 (List.map vt a0))] (eS 1 vt r) [none] := by
 dsimp only [slices_Compact_string] at h
 refine fob [2] Tryz.call96 Tryz.func96 rfl (.cons rfl .nil) ?_
 refine sk .a ?_
 refine q1 ?_
 refine sj ?_
 refine rk 2 (.k (.i 7 (vi (a0.length : Int)) .n)) ?_
 refine jo 8 (.bin .lss false 7 (ki 2)) (n_lss (i := a0.length) (j := 2) rfl rfl) ?_
 refine jf (.d (.k (.i 8 (vb (decide (a0.length < 2))) .n))) ?_
 refine tc h (fun c1 h => ?_) (fun c1 h => ?_)
 ·refine sk (.i 2 (.own 0 0 a0.length) .n) ?_
  refine q3 ?_
  have h := si h
  subst h
  exact DoneS.ret (S' := ⟨[(2, eS 1 vt a0)], [none]⟩) (Sees.trans (Sees.freeze 0 (fr' := [(2, eS 1 vt a0)]) (ob' := [none]) rfl (frz_row vt_frzE _) (.cons (frz_full rfl) .nil) rfl) Sees.refl) rfl rfl
 refine q2 ?_
 refine TriE.seqK h (fun (_ : Unit) => St.mk [(0, .own 0 0 a0.length)] [some (.row 1 (List.map vt a0))]) ?_ ?_
 ·rintro ⟨⟩ h
  refine sk (.i 2 (.own 0 0 a0.length) .n) ?_
  refine q3 ?_
  have h := si h
  subst h
  exact DoneS.ret (S' := ⟨[(2, eS 1 vt a0)], [none]⟩) (Sees.trans (Sees.freeze 0 (fr' := [(2, eS 1 vt a0)]) (ob' := [none]) rfl (frz_row vt_frzE _) (.cons (frz_full rfl) .nil) rfl) Sees.refl) rfl rfl
 intro k3 h
 refine sk (.k (.i 3 (vi 1) .n)) ?_
 refine q4 ?_
 refine ts (.k (.i 3 (vi 1) .n)) ?_
 refine TriE.loopN h (fun (v10 : Nat) => St.mk [(0, .own 0 0 a0.length), (3, vi v10)] [some (.row 1 (List.map vt a0))]) rfl ?_
 clear h
 rintro back v10 h
 dsimp only [slices_Compact_string_L2] at h
 refine q1 ?_
 refine sj ?_
 refine rk 3 (.k2 (.i 10 (vi v10) (.i 12 (vi (a0.length : Int)) .n))) ?_
 refine jo 13 (.bin .lss false 10 12) (n_lss (i := v10) (j := a0.length) rfl rfl) ?_
 refine jf (.d (.k2 (.i 13 (vb (decide (v10 < a0.length))) .n))) ?_
 refine tc h (fun c2 h => ?_) (fun c2 h => ?_)
 ·refine q2 ?_
  refine q7 ?_
  refine q1 ?_
  refine ts (.k2 .n) ?_
  refine TriE.draw (by kernel_rfl) ?_
  refine dk 2 (.i 17 (vi v10) (.i 16 (.own 0 0 a0.length) .a)) ?_
  refine dp 18 (.iaddr 1 16 17) (ok_iaddr_o0 (j := v10) rfl rfl rfl rfl c2) ?_
  refine dp 19 (.load false 1 18) (ok_load_pm (l := a0) (e := vt) (v := vt (ix a0 v10)) rfl rfl c2 rfl) ?_
  refine dk 2 (.i 21 (vi v10) (.i 20 (.own 0 0 a0.length) .a)) ?_
  obtain ⟨c3, h⟩ := ck h
  refine dp 22 (.bin .sub false 21 (ki 1)) (r_sub rfl rfl c3) ?_
  obtain ⟨c4, h⟩ := ck h
  refine dp 23 (.iaddr 1 20 22) (ok_iaddr_o0 (j := ((v10 : Int) - 1).toNat) rfl rfl rfl (inB_to c4) (inB_lt c4)) ?_
  obtain ⟨c5, h⟩ := ck h
  refine dp 24 (.load false 1 23) (ok_load_pm (l := a0) (e := vt) (v := vt (ix a0 (((v10 : Int) - 1).toNat))) rfl rfl c5 rfl) ?_
  refine dk 1 (.i 25 (vb ((ix a0 v10) == (ix a0 (((v10 : Int) - 1).toNat)))) .a) ?_
  refine dfi (.d4 (.d4 (.d2 (.k2 (.i 25 (vb ((ix a0 v10) == (ix a0 (((v10 : Int) - 1).toNat)))) .n))))) [0] (obRen_row vt_frz rfl .nil) ?_
  refine tc h (fun c6 h => ?_) (fun c6 h => ?_)
  ·refine sj ?_
   refine rk 2 (.k2 (.i 26 (.own 0 0 a0.length) (.i 27 (vi v10) .n))) ?_
   refine jo 28 (.slc 1 26 (some 27) none none) (ok_slco_lo0 (i := v10) rfl rfl rfl rfl c2) ?_
   refine jk 1 (.d (.k2 (.i 4 (.own 0 v10 (a0.length - v10)) .n))) ?_
   refine TriE.seqK h (fun (t : Nat × (List Str)) => match t with | (v18, v19) => St.mk [(0, .own 0 0 v19.length), (3, vi v18)] [some (.row 1 (List.map vt v19))]) ?_ ?_
   ·rintro ⟨v18, v19⟩ h
    refine sj ?_
    refine rk 2 (.k2 (.i 54 (.own 0 0 v19.length) (.i 55 (vi v18) .n))) ?_
    obtain ⟨c16, h⟩ := ck h
    refine jo 56 (.slc 1 54 (some 55) none none) (ok_slco_lo0 (i := v18) rfl rfl rfl rfl c16) ?_
    obtain ⟨c17, h⟩ := ck h
    obtain ⟨c18, h⟩ := ck h
    obtain ⟨c19, h⟩ := ck h
    refine RegJ.clrM (d := none) (k := 1) (e := vt) (l := v19) (x0 := ([] : Str)) (nn := 0) (off := v18) (len := v19.length - v18) (x := .t 56) (by kernel_rfl) rfl rfl rfl c17 c18 rfl ?_
    refine jp [(0, .own 0 0 v19.length), (3, vi v18)] ?_
    refine sj ?_
    refine rko 2 (.i 57 (.own 0 0 v19.length) (.i 58 (vi v18) .n)) [some (.row 1 (List.map vt (clrP v19 v18 (v19.length - v18) ([] : Str))))] ?_
    obtain ⟨c20, h⟩ := ck h
    refine jo 59 (.slc 1 57 none (some 58) none) (ok_slco_hi (j := v18) rfl rfl rfl rfl c20) ?_
    refine jk 1 (.i 2 (.own 0 0 v18) .n) ?_
    refine q3 ?_
    have h := si h
    subst h
    exact DoneS.ret (S' := ⟨[(2, eS 1 vt (List.take v18 (clrP v19 v18 (v19.length - v18) ([] : Str))))], [none]⟩) (Sees.trans (Sees.freeze 0 (fr' := [(2, eS 1 vt (List.take v18 (clrP v19 v18 (v19.length - v18) ([] : Str))))]) (ob' := [none]) rfl (frz_row vt_frzE _) (.cons (frz_part c19) .nil) rfl) Sees.refl) rfl rfl
   intro k2 h
   refine sk (.k3 (.i 5 (vi 1) .n)) ?_
   refine q4 ?_
   refine ts (.k3 (.i 5 (vi 1) .n)) ?_
   refine TriE.loopN h (fun (t : Nat × Nat × (List Str)) => match t with | (v13, v14, v15) => St.mk [(0, .own 0 0 v15.length), (3, vi v13), (4, .own 0 v10 (a0.length - v10)), (5, vi v14)] [some (.row 1 (List.map vt v15))]) rfl ?_
   clear h
   rintro back ⟨v13, v14, v15⟩ h
   dsimp only [slices_Compact_string_L1] at h
   refine q1 ?_
   refine sj ?_
   refine rk 3 (.k4 (.i 29 (vi v14) (.i 31 (vi ((a0.length - v10 : Nat) : Int)) .n))) ?_
   refine jo 32 (.bin .lss false 29 31) (n_lss (i := v14) (j := a0.length - v10) rfl rfl) ?_
   refine jf (.d (.k4 (.i 32 (vb (decide (v14 < (a0.length - v10)))) .n))) ?_
   refine tc h (fun c7 h => ?_) (fun c7 h => ?_)
   ·refine q2 ?_
    refine TriE.seqK h (fun (t : Nat × (List Str)) => match t with | (v16, v17) => St.mk [(0, .own 0 0 v17.length), (4, .own 0 v10 (a0.length - v10)), (5, vi v14), (3, vi v16)] [some (.row 1 (List.map vt v17))]) ?_ ?_
    ·rintro ⟨v16, v17⟩ h
     refine q6 ?_
     refine rk 1 (.k2 (.d (.k (.i 33 (vi v14) .n)))) ?_
     obtain ⟨c15, h⟩ := ck h
     refine jo 34 (.bin .add false 33 (ki 1)) (r_addn (i := v14) (j := 1) rfl rfl c15) ?_
     refine jk 1 (.d (.k3 (.i 5 (vi ((v14 + 1 : Nat) : Int)) .n))) ?_
     exact Vs.intro sy ⟨(v16, v14 + 1, v17), rfl, h⟩
    intro k1 h
    refine q4 ?_
    refine q1 ?_
    refine ts (.k4 .n) ?_
    refine TriE.draw (by kernel_rfl) ?_
    refine dk 2 (.i 36 (vi v14) (.i 35 (.own 0 v10 (a0.length - v10)) .a)) ?_
    refine dp 37 (.iaddr 1 35 36) (ok_iaddr_o (j := v14) rfl rfl rfl rfl c7) ?_
    obtain ⟨c8, h⟩ := ck h
    refine dp 38 (.load false 1 37) (ok_load_pm (l := v15) (e := vt) (v := vt (ix v15 (v10 + v14))) rfl rfl c8 rfl) ?_
    refine dk 2 (.i 40 (vi v14) (.i 39 (.own 0 v10 (a0.length - v10)) .a)) ?_
    obtain ⟨c9, h⟩ := ck h
    refine dp 41 (.bin .sub false 40 (ki 1)) (r_sub rfl rfl c9) ?_
    obtain ⟨c10, h⟩ := ck h
    refine dp 42 (.iaddr 1 39 41) (ok_iaddr_o (j := ((v14 : Int) - 1).toNat) rfl rfl rfl (inB_to c10) (inB_lt c10)) ?_
    obtain ⟨c11, h⟩ := ck h
    refine dp 43 (.load false 1 42) (ok_load_pm (l := v15) (e := vt) (v := vt (ix v15 (v10 + (((v14 : Int) - 1).toNat)))) rfl rfl c11 rfl) ?_
    refine dk 1 (.i 44 (vb (!((ix v15 (v10 + v14)) == (ix v15 (v10 + (((v14 : Int) - 1).toNat)))))) .a) ?_
    refine dfi (.d4 (.d4 (.d2 (.k4 (.i 44 (vb (!((ix v15 (v10 + v14)) == (ix v15 (v10 + (((v14 : Int) - 1).toNat)))))) .n))))) [0] (obRen_row vt_frz rfl .nil) ?_
    refine tc h (fun c12 h => ?_) (fun c12 h => ?_)
    ·refine sj ?_
     refine rk 4 (.k4 (.i 45 (.own 0 0 v15.length) (.i 46 (vi v13) (.i 47 (.own 0 v10 (a0.length - v10)) (.i 48 (vi v14) .n))))) ?_
     refine jo 49 (.iaddr 1 47 48) (ok_iaddr_o (j := v14) rfl rfl rfl rfl c7) ?_
     refine jo 50 (.load false 1 49) (ok_load_pm (l := v15) (e := vt) (v := vt (ix v15 (v10 + v14))) rfl rfl c8 rfl) ?_
     obtain ⟨c13, h⟩ := ck h
     refine jo 51 (.iaddr 1 45 46) (ok_iaddr_o0 (j := v13) rfl rfl rfl rfl c13) ?_
     refine jn (.store 1 51 50) _ (ok_store_m (l := v15) (e := vt) (x' := (ix v15 (v10 + v14))) (u := vt (ix v15 (v10 + v14))) rfl rfl rfl c13 rfl rfl) rfl rfl ?_
     refine jf (.d3 (.k4 .n)) ?_
     refine q6 ?_
     refine rk 1 (.k (.d (.k2 (.i 52 (vi v13) .n)))) ?_
     obtain ⟨c14, h⟩ := ck h
     refine jo 53 (.bin .add false 52 (ki 1)) (r_addn (i := v13) (j := 1) rfl rfl c14) ?_
     refine jk 1 (.d (.k3 (.i 3 (vi ((v13 + 1 : Nat) : Int)) .n))) ?_
     exact Vs.intro (Sees.less (.cons (by simp only [List.length_set]; rfl) (.cons rfl (.cons rfl (.cons rfl .nil))))) ⟨(v13 + 1, (List.set v15 v13 (ix v15 (v10 + v14)))), rfl, h⟩
    refine q2 ?_
    exact Vs.intro sy ⟨(v13, v15), rfl, h⟩
   refine q5 ?_
   exact Vs.intro sy ⟨(v13, v15), rfl, h⟩
  refine q2 ?_
  refine q6 ?_
  refine rk 1 (.k (.i 14 (vi v10) .n)) ?_
  obtain ⟨c21, h⟩ := ck h
  refine jo 15 (.bin .add false 14 (ki 1)) (r_addn (i := v10) (j := 1) rfl rfl c21) ?_
  refine jk 1 (.d (.k (.i 3 (vi ((v10 + 1 : Nat) : Int)) .n))) ?_
  exact Vs.intro sy ⟨(v10 + 1), rfl, h⟩
 refine q5 ?_
 exact Vs.intro sy ⟨(), rfl, h⟩
set_option maxHeartbeats 1000000 in
theorem restore_Estimate_ok (n : Nat) (a0 : List Task) (a1 : List Stocked) (a2 : List Finding) (r : Int × (List Str) × Int) (h : restore_Estimate n a0 a1 a2 = some r) : FnL Tryz.prog 28 [eS 6 eTask a0, eS 3 eStocked a1, eS 2 eFinding a2] [] (.tup [eS 1 vt r.2.1, vi r.2.2, vi r.1]) [] := by
 dsimp only [restore_Estimate] at h
 refine fo [6, 7, 8] Tryz.call28 Tryz.func28 rfl ?_
 refine sk .a ?_
 refine q1 ?_
 refine sj ?_
 refine rk 2 (.k3 (.i 13 (eS 6 eTask a0) (.i 14 (eS 2 eFinding a2) .n))) ?_
 obtain ⟨y1, hy1, h⟩ := bs h
 refine jc 15 [13, 14] (restore_CheckFindings_2_ok n a0 a2 y1 hy1) ?_
 refine jk 1 (.d (.k3 (.i 9 (vi y1) .n))) ?_
 refine sk (.k4 (.i 17 (vb (y1 != (0 : Int))) .n)) ?_
 refine tc h (fun c1 h => ?_) (fun c1 h => ?_)
 ·refine sk (.i 6 .emp (.i 7 (vi 0) (.i 8 (vi y1) .n))) ?_
  refine q3 ?_
  have h := si h
  subst h
  exact DoneS.ret (S' := ⟨[(6, eS 1 vt ([] : List Str)), (7, vi 0), (8, vi y1)], []⟩) (Sees.trans (Sees.vco (fr' := [(6, eS 1 vt ([] : List Str)), (7, vi 0), (8, vi y1)]) (.cons .sl (.cons .same (.cons .same .nil)))) sy) rfl rfl
 refine q2 ?_
 refine sk (.k3 (.i 10 .emp .n)) ?_
 refine TriE.seqK h (fun (v4 : (List Str)) => St.mk [(0, eS 6 eTask a0), (1, eS 3 eStocked a1), (10, .own 0 0 v4.length)] [some (.row 1 (List.map vt v4))]) ?_ ?_
 ·rintro v4 h
  refine sj ?_
  refine rk 1 (.k3 (.i 30 (.own 0 0 v4.length) .n)) ?_
  obtain ⟨y5, hy5, h⟩ := bs h
  refine jco (.tup []) 31 [30] (slices_Sort_string_ok n v4 y5 hy5) [0] rfl (.same (row_ren vt_frz _ _ _) .nil) (.same (row_ren vt_frz _ _ _) .nil) rfl ?_
  obtain ⟨c5, h⟩ := ck h
  refine RegJ.sees (S' := ⟨[(0, eS 6 eTask a0), (1, eS 3 eStocked a1), (10, .own 0 0 y5.length), (30, .own 0 0 y5.length), (31, .tup [])], [some (.row 1 (List.map vt y5))]⟩) (Sees.cov (Cov.mk2 (rs := [0]) (by decide) rfl rfl (.cons (.inl rfl) (.cons (.inl rfl) (.cons (.inl (by rw [show v4.length = y5.length from of_decide_eq_true c5]; rfl)) (.cons (.inl (by rw [show v4.length = y5.length from of_decide_eq_true c5]; rfl)) (.cons (.inl rfl) .nil))))) (obRen_row vt_frz rfl .nil))) ?_
  refine jf (.k3 .n) ?_
  refine sj ?_
  refine rk 3 (.i 32 (eS 6 eTask a0) (.i 33 (eS 3 eStocked a1) (.i 34 (.own 0 0 y5.length) .n))) ?_
  obtain ⟨y6, hy6, h⟩ := bs h
  refine jco (eS 1 vt y6) 35 [34] (slices_Compact_string_ok n y5 y6 hy6) [0] rfl (.same (row_ren vt_frz _ _ _) .nil) (.cons rfl .nil) rfl ?_
  obtain ⟨y7, hy7, h⟩ := bs h
  refine jc 36 [32, 33, 35] (restore_Cheapest_ok n a0 a1 y6 y7 hy7) ?_
  refine jk 6 (.i 6 (eS 1 vt y7.2.1) (.i 7 (vi y7.2.2) (.i 8 (vi y7.1) .n))) ?_
  refine q3 ?_
  have h := si h
  subst h
  exact DoneS.ret (S' := ⟨[(6, eS 1 vt y7.2.1), (7, vi y7.2.2), (8, vi y7.1)], []⟩) (sc [] (by decide) (by kernel_rfl) ObRen.nil rfl rfl) rfl rfl
 intro k1 h
 refine sj ?_
 refine rk 1 (.k2 (.d (.k (.i 19 (eS 2 eFinding a2) .n)))) ?_
 refine jo 20 (.len 0 19) (ok_len_m rfl) ?_
 refine jk 1 (.d (.k4 (.i 20 (vi (a2.length : Int)) (.i 21 (vi 0) .n)))) ?_
 refine q4 ?_
 refine TriE.sees (S' := ⟨[(0, eS 6 eTask a0), (1, eS 3 eStocked a1), (10, .own 0 0 ([] : List Str).length), (19, eS 2 eFinding a2), (20, vi (a2.length : Int)), (21, vi 0)], [some (.row 1 (List.map vt ([] : List Str)))]⟩) (Sees.trans (Sees.co (fr' := [(0, eS 6 eTask a0), (1, eS 3 eStocked a1), (10, .own 0 0 0), (19, eS 2 eFinding a2), (20, vi (a2.length : Int)), (21, vi 0)]) (ob' := []) (.cons .same (.cons .same (.cons .own (.cons .same (.cons .same (.cons .same .nil)))))) ObCo.nil 1) sy) ?_
 refine TriE.loopN h (fun (t : (List Str) × Nat) => match t with | (v2, v3) => St.mk [(0, eS 6 eTask a0), (1, eS 3 eStocked a1), (10, .own 0 0 v2.length), (19, eS 2 eFinding a2), (20, vi (a2.length : Int)), (21, vi v3)] [some (.row 1 (List.map vt v2))]) rfl ?_
 clear h
 rintro back ⟨v2, v3⟩ h
 dsimp only [restore_Estimate_L1] at h
 refine sj ?_
 refine jo 22 (.bin .lss false 21 20) (n_lss (i := v3) (j := a2.length) rfl rfl) ?_
 refine jf (.d (.k4 (.k2 (.i 22 (vb (decide (v3 < a2.length))) .n)))) ?_
 refine q1 ?_
 refine tc h (fun c2 h => ?_) (fun c2 h => ?_)
 ·refine q2 ?_
  refine q7 ?_
  refine sj ?_
  refine jo 23 (.iaddr 2 19 21) (ok_iaddr_m (j := v3) rfl rfl rfl c2) ?_
  refine jo 24 (.load true 2 23) (ok_load_fm (v := .agg [vt ((ix a2 v3).Name), eS 1 vt ((ix a2 v3).Tasks)]) rfl c2 rfl) ?_
  refine jko 2 (.d2 (.k4 (.k2 (.i 12 (.ptr 1 0 0) .n)))) [some (.row 1 (List.map vt v2)), some (.row 2 [.agg [vt ((ix a2 v3).Name), eS 1 vt ((ix a2 v3).Tasks)]])] ?_
  refine q6 ?_
  refine rk 3 (.k2 (.d (.k3 (.i 25 (.own 0 0 v2.length) (.i 27 (eS 1 vt ((ix a2 v3).Tasks)) .n))))) ?_
  obtain ⟨c3, h⟩ := ck h
  refine jx 28 (.app 1 16 25 27) _ (ok_app_own (l := v2) (l2 := (ix a2 v3).Tasks) (e := vt) (u := eS 1 vt ((ix a2 v3).Tasks)) rfl rfl rfl rfl els_sl c3) rfl rfl ?_
  refine jk 1 (.d (.k4 (.k (.i 10 (.own 2 0 ((v2 ++ (ix a2 v3).Tasks).length)) .n)))) ?_
  refine q6 ?_
  obtain ⟨c4, h⟩ := ck h
  refine jo 29 (.bin .add false 21 (ki 1)) (r_addn (i := v3) (j := 1) rfl rfl c4) ?_
  refine jk 1 (.d (.k4 (.d (.k (.i 21 (vi ((v3 + 1 : Nat) : Int)) .n))))) ?_
  exact Vs.intro (sc [2] (by decide) (by kernel_rfl) (obRen_row vt_frz rfl .nil) rfl rfl) ⟨((v2 ++ (ix a2 v3).Tasks), v3 + 1), rfl, h⟩
 refine q5 ?_
 exact Vs.intro sy ⟨v2, rfl, h⟩
theorem agraffetop_estimated_ok (n : Nat) (r : Bool) (h : agraffetop_estimated n = some r) : FnL Tryz.prog 75 [] [] (vb r) [] := by
 cases h
 exact closed_top
set_option maxHeartbeats 1000000 in
theorem agraffetop_TopEstimateOnce_ok (n : Nat) (a0 : List Task) (a1 : List Stocked) (a2 : List Finding) (r : Bool) (h : agraffetop_TopEstimateOnce n a0 a1 a2 = some r) : FnL Tryz.prog 13 [eS 6 eTask a0, eS 3 eStocked a1, eS 2 eFinding a2] [] (vb r) [] := by
 dsimp only [agraffetop_TopEstimateOnce] at h
 refine fo [6] Tryz.call13 Tryz.func13 rfl ?_
 refine sk .a ?_
 refine q1 ?_
 refine sj ?_
 obtain ⟨y1, hy1, h⟩ := bs h
 refine jc 21 [] (agraffetop_estimated_ok n y1 hy1) ?_
 refine jk 1 (.d (.k3 (.i 22 (vb (!y1)) .n))) ?_
 refine tc h (fun c1 h => ?_) (fun c1 h => ?_)
 ·refine sk (.i 6 (vb false) .n) ?_
  refine q3 ?_
  have h := si h
  subst h
  exact DoneS.ret Sees.refl rfl rfl
 refine q2 ?_
 refine q1 ?_
 refine sj ?_
 refine rk 1 (.k3 (.i 23 (eS 6 eTask a0) .n)) ?_
 obtain ⟨y2, hy2, h⟩ := bs h
 refine jc 24 [23] (agraffelaw08_Few_ok n a0 y2 hy2) ?_
 refine rk 2 (.d (.k3 (.i 26 (vb (!y2)) .n))) ?_
 refine gj (eS 6 eTask a0) 27 (.mov 0) 26 false rfl ?_
 refine gv 28 (.len 0 27) 26 false rfl (fun hg => (ok_len_m rfl)) (fun hg => (.cons hg .nil)) ?_
 refine gv 29 (.bin .gtr false 28 (ki 8)) 26 false rfl (fun hg => (n_gtr (i := a0.length) (j := 8) rfl rfl)) (fun hg => (.cons hg (.cons rfl .nil))) ?_
 refine po 30 26 29 rfl rfl ?_
 refine rk 1 (.d4 (.k3 (.i 31 (vb ((!y2) || (decide (8 < a0.length)))) .n))) ?_
 refine gj (eS 3 eStocked a1) 32 (.mov 1) 31 false rfl ?_
 refine gv 33 (.len 0 32) 31 false rfl (fun hg => (ok_len_m rfl)) (fun hg => (.cons hg .nil)) ?_
 refine gv 34 (.bin .gtr false 33 (ki 8)) 31 false rfl (fun hg => (n_gtr (i := a1.length) (j := 8) rfl rfl)) (fun hg => (.cons hg (.cons rfl .nil))) ?_
 refine po 35 31 34 rfl rfl ?_
 refine rk 1 (.d4 (.k3 (.i 36 (vb (((!y2) || (decide (8 < a0.length))) || (decide (8 < a1.length)))) .n))) ?_
 refine gj (eS 2 eFinding a2) 37 (.mov 2) 36 false rfl ?_
 refine gv 38 (.len 0 37) 36 false rfl (fun hg => (ok_len_m rfl)) (fun hg => (.cons hg .nil)) ?_
 refine gv 39 (.bin .gtr false 38 (ki 4)) 36 false rfl (fun hg => (n_gtr (i := a2.length) (j := 4) rfl rfl)) (fun hg => (.cons hg (.cons rfl .nil))) ?_
 refine po 40 36 39 rfl rfl ?_
 refine rk 1 (.d4 (.k3 (.i 41 (vb ((((!y2) || (decide (8 < a0.length))) || (decide (8 < a1.length))) || (decide (4 < a2.length)))) .n))) ?_
 refine gj (eS 6 eTask a0) 42 (.mov 0) 41 false rfl ?_
 refine gj (eS 2 eFinding a2) 43 (.mov 2) 41 false rfl ?_
 obtain ⟨y3, hy3, h⟩ := bs h
 refine gc 44 [42, 43] 41 false rfl (fun hg => agrafferef08_CheckFindings_ok n a0 a2 y3 (gcall_some hy3 hg)) (fun hg => (.cons rfl (.cons hg (.cons hg .nil)))) (fun hg => by kernel_rfl) ?_
 refine gk (vb (y3 != (0 : Int))) 45 (.bin .neq false 44 (ki 0)) 41 false rfl (fun hg => (.cons hg (.cons rfl .nil))) ?_
 refine po 46 41 45 rfl rfl ?_
 refine rk 1 (.d4 (.d (.k3 (.i 47 (vb (((((!y2) || (decide (8 < a0.length))) || (decide (8 < a1.length))) || (decide (4 < a2.length))) || (y3 != (0 : Int)))) .n)))) ?_
 refine gj (eS 3 eStocked a1) 48 (.mov 1) 47 false rfl ?_
 obtain ⟨y4, hy4, h⟩ := bs h
 refine gc 49 [48] 47 false rfl (fun hg => agrafferef08_CheckStock_ok n a1 y4 (gcall_some hy4 hg)) (fun hg => (.cons rfl (.cons hg .nil))) (fun hg => by kernel_rfl) ?_
 refine gk (vb (y4 != (0 : Int))) 50 (.bin .neq false 49 (ki 0)) 47 false rfl (fun hg => (.cons hg (.cons rfl .nil))) ?_
 refine po 51 47 50 rfl rfl ?_
 refine jf (.d4 (.k3 (.i 51 (vb ((((((!y2) || (decide (8 < a0.length))) || (decide (8 < a1.length))) || (decide (4 < a2.length))) || (y3 != (0 : Int))) || (y4 != (0 : Int)))) .n))) ?_
 refine tc h (fun c2 h => ?_) (fun c2 h => ?_)
 ·refine sk (.i 6 (vb true) .n) ?_
  refine q3 ?_
  have h := si h
  subst h
  exact DoneS.ret Sees.refl rfl rfl
 refine q2 ?_
 refine sj ?_
 refine rk 3 (.k3 (.i 53 (eS 6 eTask a0) (.i 54 (eS 3 eStocked a1) (.i 55 (eS 2 eFinding a2) .n)))) ?_
 obtain ⟨y5, hy5, h⟩ := bs h
 refine jc 56 [53, 54, 55] (restore_Estimate_ok n a0 a1 a2 y5 hy5) ?_
 refine jk 7 (.d (.k3 (.i 7 (eS 1 vt y5.2.1) (.i 8 (vi y5.2.2) (.i 9 (vi y5.1) .n))))) ?_
 refine q1 ?_
 refine sk (.k4 (.k2 (.i 61 (vb (y5.1 != (0 : Int))) .n))) ?_
 refine tc h (fun c3 h => ?_) (fun c3 h => ?_)
 ·refine sj ?_
  refine rk 3 (.d3 (.k (.i 64 (vb (y5.1 == (6 : Int))) .n))) ?_
  refine gj (eS 1 vt y5.2.1) 65 (.mov 7) 64 true rfl ?_
  refine gv 66 (.len 0 65) 64 true rfl (fun hg => (ok_len_m rfl)) (fun hg => (.cons hg .nil)) ?_
  refine gv 67 (.bin .eql false 66 (ki 0)) 64 true rfl (fun hg => (n_eql (i := y5.2.1.length) (j := 0) rfl rfl)) (fun hg => (.cons hg (.cons rfl .nil))) ?_
  refine pa 68 64 67 rfl rfl ?_
  refine jk 1 (.i 6 (vb ((y5.1 == (6 : Int)) && (decide (y5.2.1.length = 0)))) .n) ?_
  refine q3 ?_
  have h := si h
  subst h
  exact DoneS.ret Sees.refl rfl rfl
 refine q2 ?_
 refine q1 ?_
 refine sj ?_
 refine rk 2 (.k4 (.k (.i 69 (eS 6 eTask a0) (.i 70 (eS 1 vt y5.2.1) .n)))) ?_
 obtain ⟨y6, hy6, h⟩ := bs h
 refine jc 71 [69, 70] (agrafferef08_CheckSet_ok n a0 y5.2.1 y6 hy6) ?_
 refine jk 1 (.d (.k4 (.k (.i 72 (vb (y6 != (0 : Int))) .n)))) ?_
 refine tc h (fun c4 h => ?_) (fun c4 h => ?_)
 ·refine sk (.i 6 (vb false) .n) ?_
  refine q3 ?_
  have h := si h
  subst h
  exact DoneS.ret Sees.refl rfl rfl
 refine q2 ?_
 refine sj ?_
 refine rk 2 (.k4 (.k (.i 74 (eS 6 eTask a0) (.i 75 (eS 1 vt y5.2.1) .n)))) ?_
 obtain ⟨y7, hy7, h⟩ := bs h
 refine jc 76 [74, 75] (restore_PartsOf_ok n a0 y5.2.1 y7 hy7) ?_
 refine jk 5 (.d (.k4 (.k (.i 10 (eS 2 ePartCount y7.2) (.i 11 (vi y7.1) .n))))) ?_
 refine sk (.k4 (.k3 (.i 12 (vi 0) .n))) ?_
 refine TriE.seqK h (fun (v12 : Int) => St.mk [(0, eS 6 eTask a0), (1, eS 3 eStocked a1), (2, eS 2 eFinding a2), (8, vi y5.2.2), (10, eS 2 ePartCount y7.2), (11, vi y7.1), (12, vi v12)] []) ?_ ?_
 ·rintro v12 h
  refine TriE.seqK h (fun (v17 : Int) => St.mk [(0, eS 6 eTask a0), (1, eS 3 eStocked a1), (2, eS 2 eFinding a2), (8, vi y5.2.2), (11, vi y7.1), (12, vi v17)] []) ?_ ?_
  ·rintro v17 h
   refine q1 ?_
   refine sj ?_
   refine rk 3 (.k4 (.d (.k (.i 127 (vb (y7.1 != (0 : Int))) .n)))) ?_
   refine gj (vi v17) 128 (.mov 12) 127 false rfl ?_
   refine gj (vi y5.2.2) 129 (.mov 8) 127 false rfl ?_
   refine gk (vb (v17 != y5.2.2)) 130 (.bin .neq false 128 129) 127 false rfl (fun hg => (.cons hg (.cons hg .nil))) ?_
   refine po 131 127 130 rfl rfl ?_
   refine jf (.d4 (.k4 (.i 131 (vb ((y7.1 != (0 : Int)) || (v17 != y5.2.2))) .n))) ?_
   refine tc h (fun c17 h => ?_) (fun c17 h => ?_)
   ·refine sk (.i 6 (vb false) .n) ?_
    refine q3 ?_
    have h := si h
    subst h
    exact DoneS.ret Sees.refl rfl rfl
   refine q2 ?_
   refine sk (.k4 (.i 16 (vi 0) .n)) ?_
   refine TriE.seqK h (fun (v22 : Int) => St.mk [(8, vi y5.2.2), (16, vi v22)] []) ?_ ?_
   ·rintro v22 h
    refine sk (.i 6 (vb (decide (y5.2.2 ≤ v22))) .n) ?_
    refine q3 ?_
    have h := si h
    subst h
    exact DoneS.ret Sees.refl rfl rfl
   intro k3 h
   refine sk (.k4 (.k (.i 17 (vi 0) .n))) ?_
   refine q4 ?_
   refine ts (.k4 (.k (.i 17 (vi 0) .n))) ?_
   refine TriE.loopN h (fun (t : Int × Nat) => match t with | (v19, v20) => St.mk [(0, eS 6 eTask a0), (1, eS 3 eStocked a1), (2, eS 2 eFinding a2), (8, vi y5.2.2), (16, vi v19), (17, vi v20)] []) rfl ?_
   clear h
   rintro back ⟨v19, v20⟩ h
   dsimp only [agraffetop_TopEstimateOnce_L3] at h
   refine q1 ?_
   refine sj ?_
   refine rk 2 (.k4 (.k2 (.i 132 (vi v20) (.i 133 (eS 2 eFinding a2) .n)))) ?_
   refine jo 134 (.len 0 133) (ok_len_m rfl) ?_
   refine jo 135 (.bin .lss false 132 134) (n_lss (i := v20) (j := a2.length) rfl rfl) ?_
   refine jf (.d2 (.k4 (.k2 (.i 135 (vb (decide (v20 < a2.length))) .n)))) ?_
   refine tc h (fun c18 h => ?_) (fun c18 h => ?_)
   ·refine q2 ?_
    refine q7 ?_
    refine sj ?_
    refine rk 5 (.k4 (.k2 (.i 139 (eS 6 eTask a0) (.i 140 (eS 3 eStocked a1) (.i 141 (eS 2 eFinding a2) (.i 142 (vi v20) (.i 143 (vi v20) .n))))))) ?_
    obtain ⟨c19, h⟩ := ck h
    refine jo 144 (.bin .add false 143 (ki 1)) (r_addn (i := v20) (j := 1) rfl rfl c19) ?_
    obtain ⟨c20, h⟩ := ck h
    obtain ⟨c21, h⟩ := ck h
    refine jo 145 (.slc 2 141 (some 142) (some 144) none) (ok_slc_lh (i := v20) (j := v20 + 1) rfl rfl rfl rfl rfl c21 c20) ?_
    obtain ⟨y21, hy21, h⟩ := bs h
    refine jc 146 [139, 140, 145] (restore_Estimate_ok n a0 a1 (List.take ((v20 + 1) - v20) (List.drop v20 a2)) y21 hy21) ?_
    refine jk 7 (.d3 (.k4 (.k2 (.i 19 (vi y21.2.2) (.i 20 (vi y21.1) .n))))) ?_
    refine q1 ?_
    refine sj ?_
    refine rk 3 (.k4 (.k3 (.i 152 (vb (y21.1 != (0 : Int))) .n))) ?_
    refine gj (vi y21.2.2) 153 (.mov 19) 152 false rfl ?_
    refine gj (vi y5.2.2) 154 (.mov 8) 152 false rfl ?_
    refine gk (vb (decide (y5.2.2 < y21.2.2))) 155 (.bin .gtr false 153 154) 152 false rfl (fun hg => (.cons hg (.cons hg .nil))) ?_
    refine po 156 152 155 rfl rfl ?_
    refine jf (.d4 (.k4 (.k3 (.i 156 (vb ((y21.1 != (0 : Int)) || (decide (y5.2.2 < y21.2.2)))) .n)))) ?_
    refine tc h (fun c22 h => ?_) (fun c22 h => ?_)
    ·refine sk (.i 6 (vb false) .n) ?_
     refine q3 ?_
     have h := si h
     subst h
     exact DoneS.ret Sees.refl rfl rfl
    refine q2 ?_
    refine q6 ?_
    refine rk 2 (.k4 (.d (.k (.i 157 (vi v19) (.i 158 (vi y21.2.2) .n))))) ?_
    obtain ⟨c23, h⟩ := ck h
    refine jo 159 (.bin .add false 157 158) (r_add rfl rfl c23) ?_
    refine jk 1 (.d (.k4 (.k (.i 16 (vi (v19 + y21.2.2)) .n)))) ?_
    refine q6 ?_
    refine rk 1 (.k4 (.d (.k (.i 136 (vi v20) .n)))) ?_
    refine jo 137 (.bin .add false 136 (ki 1)) (r_addn (i := v20) (j := 1) rfl rfl c19) ?_
    refine jk 1 (.d (.k4 (.k (.i 17 (vi ((v20 + 1 : Nat) : Int)) .n)))) ?_
    exact Vs.intro sy ⟨(v19 + y21.2.2, v20 + 1), rfl, h⟩
   refine q5 ?_
   exact Vs.intro sy ⟨v19, rfl, h⟩
  intro k2 h
  refine sk (.k4 (.k3 (.i 14 (vi 0) .n))) ?_
  refine q4 ?_
  refine ts (.k4 (.k3 (.i 14 (vi 0) .n))) ?_
  refine TriE.loopN h (fun (t : Int × Nat) => match t with | (v14, v15) => St.mk [(0, eS 6 eTask a0), (1, eS 3 eStocked a1), (2, eS 2 eFinding a2), (8, vi y5.2.2), (10, eS 2 ePartCount y7.2), (11, vi y7.1), (12, vi v14), (14, vi v15)] []) rfl ?_
  clear h
  rintro back ⟨v14, v15⟩ h
  dsimp only [agraffetop_TopEstimateOnce_L2] at h
  refine q1 ?_
  refine sj ?_
  refine rk 2 (.k4 (.k4 (.i 97 (vi v15) (.i 98 (eS 2 ePartCount y7.2) .n)))) ?_
  refine jo 99 (.len 0 98) (ok_len_m rfl) ?_
  refine jo 100 (.bin .lss false 97 99) (n_lss (i := v15) (j := y7.2.length) rfl rfl) ?_
  refine jf (.d2 (.k4 (.k4 (.i 100 (vb (decide (v15 < y7.2.length))) .n)))) ?_
  refine tc h (fun c10 h => ?_) (fun c10 h => ?_)
  ·refine q2 ?_
   refine q7 ?_
   refine sj ?_
   refine rk 3 (.k4 (.k4 (.i 103 (eS 3 eStocked a1) (.i 104 (eS 2 ePartCount y7.2) (.i 105 (vi v15) .n))))) ?_
   refine jo 106 (.iaddr 2 104 105) (ok_iaddr_m (j := v15) rfl rfl rfl c10) ?_
   refine rk 1 (.d (.k4 (.k4 (.k (.i 107 (.fptr 2 (List.map ePartCount y7.2) v15 0) .n))))) ?_
   refine jo 108 (.load false 1 107) (ok_load_fm (v := vt ((ix y7.2 v15).Part)) rfl c10 rfl) ?_
   obtain ⟨y16, hy16, h⟩ := bs h
   refine jc 109 [103, 108] (agrafferef08_FindStock_ok n a1 ((ix y7.2 v15).Part) y16 hy16) ?_
   refine jk 1 (.d2 (.k4 (.k4 (.i 15 (vi y16) .n)))) ?_
   refine q1 ?_
   refine sk (.k4 (.k4 (.k (.i 111 (vb (decide (y16 < (0 : Int)))) .n)))) ?_
   refine tc h (fun c11 h => ?_) (fun c11 h => ?_)
   ·refine sk (.i 6 (vb false) .n) ?_
    refine q3 ?_
    have h := si h
    subst h
    exact DoneS.ret Sees.refl rfl rfl
   refine q2 ?_
   refine ts (.k4 (.k4 (.k .n))) ?_
   refine TriE.draw (by kernel_rfl) ?_
   refine dk 3 (.i 114 (vi v15) (.i 113 (eS 2 ePartCount y7.2) (.i 112 (vi v14) .a))) ?_
   refine dp 115 (.iaddr 2 113 114) (ok_iaddr_m (j := v15) rfl rfl rfl c10) ?_
   refine dk 1 (.i 116 (.fptr 2 (List.map ePartCount y7.2) v15 1) .a) ?_
   refine dp 117 (.load false 1 116) (ok_load_fm (v := vi ((ix y7.2 v15).Count)) rfl c10 rfl) ?_
   refine dk 2 (.i 119 (vi y16) (.i 118 (eS 3 eStocked a1) .a)) ?_
   obtain ⟨c12, h⟩ := ck h
   refine dp 120 (.iaddr 3 118 119) (ok_iaddr_m (j := y16.toNat) rfl rfl (inB_to c12) (inB_lt c12)) ?_
   refine dk 1 (.i 121 (.fptr 3 (List.map eStocked a1) y16.toNat 1) .a) ?_
   obtain ⟨c13, h⟩ := ck h
   refine dp 122 (.load false 1 121) (ok_load_fm (v := vi ((ix a1 y16.toNat).Cents)) rfl c13 rfl) ?_
   obtain ⟨c14, h⟩ := ck h
   refine dp 123 (.bin .mul false 117 122) (r_mul rfl rfl c14) ?_
   obtain ⟨c15, h⟩ := ck h
   refine dp 124 (.bin .add false 112 123) (r_add rfl rfl c15) ?_
   refine dk 1 (.i 12 (vi (v14 + (((ix y7.2 v15).Count) * ((ix a1 y16.toNat).Cents)))) .a) ?_
   refine dfi (.d4 (.d4 (.d4 (.d2 (.k4 (.k2 (.d (.k (.i 12 (vi (v14 + (((ix y7.2 v15).Count) * ((ix a1 y16.toNat).Cents)))) .n))))))))) [] ObRen.nil ?_
   refine q6 ?_
   refine rk 1 (.k4 (.k2 (.d (.k (.i 101 (vi v15) .n))))) ?_
   obtain ⟨c16, h⟩ := ck h
   refine jo 102 (.bin .add false 101 (ki 1)) (r_addn (i := v15) (j := 1) rfl rfl c16) ?_
   refine jk 1 (.d (.k4 (.k3 (.i 14 (vi ((v15 + 1 : Nat) : Int)) .n)))) ?_
   exact Vs.intro sy ⟨(v14 + (((ix y7.2 v15).Count) * ((ix a1 y16.toNat).Cents)), v15 + 1), rfl, h⟩
  refine q5 ?_
  exact Vs.intro sy ⟨v14, rfl, h⟩
 intro k1 h
 refine sk (.k4 (.k4 (.i 13 (vi 0) .n))) ?_
 refine q4 ?_
 refine ts (.k4 (.k4 (.i 13 (vi 0) .n))) ?_
 refine TriE.loopN h (fun (t : Int × Nat) => match t with | (v9, v10) => St.mk [(0, eS 6 eTask a0), (1, eS 3 eStocked a1), (2, eS 2 eFinding a2), (7, eS 1 vt y5.2.1), (8, vi y5.2.2), (10, eS 2 ePartCount y7.2), (11, vi y7.1), (12, vi v9), (13, vi v10)] []) rfl ?_
 clear h
 rintro back ⟨v9, v10⟩ h
 dsimp only [agraffetop_TopEstimateOnce_L1] at h
 refine q1 ?_
 refine sj ?_
 refine rk 2 (.k4 (.k4 (.k (.i 79 (vi v10) (.i 80 (eS 1 vt y5.2.1) .n))))) ?_
 refine jo 81 (.len 0 80) (ok_len_m rfl) ?_
 refine jo 82 (.bin .lss false 79 81) (n_lss (i := v10) (j := y5.2.1.length) rfl rfl) ?_
 refine jf (.d2 (.k4 (.k4 (.k (.i 82 (vb (decide (v10 < y5.2.1.length))) .n))))) ?_
 refine tc h (fun c5 h => ?_) (fun c5 h => ?_)
 ·refine q2 ?_
  refine q7 ?_
  refine q6 ?_
  refine rk 5 (.k4 (.k3 (.d (.k (.i 85 (vi v9) (.i 86 (eS 6 eTask a0) (.i 87 (eS 6 eTask a0) (.i 88 (eS 1 vt y5.2.1) (.i 89 (vi v10) .n))))))))) ?_
  refine jo 90 (.iaddr 1 88 89) (ok_iaddr_m (j := v10) rfl rfl rfl c5) ?_
  refine jo 91 (.load false 1 90) (ok_load_fm (v := vt (ix y5.2.1 v10)) rfl c5 rfl) ?_
  obtain ⟨y11, hy11, h⟩ := bs h
  refine jc 92 [87, 91] (agrafferef08_Find_ok n a0 (ix y5.2.1 v10) y11 hy11) ?_
  obtain ⟨c6, h⟩ := ck h
  refine jo 93 (.iaddr 6 86 92) (ok_iaddr_m (j := y11.toNat) rfl rfl (inB_to c6) (inB_lt c6)) ?_
  refine rk 1 (.d4 (.k4 (.k4 (.k (.i 94 (.fptr 6 (List.map eTask a0) y11.toNat 1) .n))))) ?_
  obtain ⟨c7, h⟩ := ck h
  refine jo 95 (.load false 1 94) (ok_load_fm (v := vi ((ix a0 y11.toNat).Cents)) rfl c7 rfl) ?_
  obtain ⟨c8, h⟩ := ck h
  refine jo 96 (.bin .add false 85 95) (r_add rfl rfl c8) ?_
  refine jk 1 (.d2 (.k4 (.k4 (.i 12 (vi (v9 + ((ix a0 y11.toNat).Cents))) .n)))) ?_
  refine q6 ?_
  refine rk 1 (.k4 (.k3 (.d (.k (.i 83 (vi v10) .n))))) ?_
  obtain ⟨c9, h⟩ := ck h
  refine jo 84 (.bin .add false 83 (ki 1)) (r_addn (i := v10) (j := 1) rfl rfl c9) ?_
  refine jk 1 (.d (.k4 (.k4 (.i 13 (vi ((v10 + 1 : Nat) : Int)) .n)))) ?_
  exact Vs.intro sy ⟨(v9 + ((ix a0 y11.toNat).Cents), v10 + 1), rfl, h⟩
 refine q5 ?_
 exact Vs.intro sy ⟨v9, rfl, h⟩
end Go.Proofs.YtifabpmjiphhdaaGreat.As
