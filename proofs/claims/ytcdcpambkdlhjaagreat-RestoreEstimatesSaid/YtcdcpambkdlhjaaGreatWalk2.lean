/- The code computes what the plain functions say, part 2: no condition. -/
import Derived.Test.YtcdcpambkdlhjaaGreatWalk1
namespace Go.Proofs.YtcdcpambkdlhjaaGreat.As
open Go Go.Proofs
set_option maxRecDepth 4000
set_option maxHeartbeats 1000000 in
theorem restore_Cheapest_ok (n : Nat) (a0 : List Task) (a1 : List Stocked) (a2 : List Str) (r : Int × (List Str) × Int) (h : restore_Cheapest n a0 a1 a2 = some r) : FnL Tryz.prog 65 [eS 6 eTask a0, eS 3 eStocked a1, eS 1 vt a2] [] (.tup [eS 1 vt r.2.1, vi r.2.2, vi r.1]) [] := by
 dsimp only [restore_Cheapest] at h
 refine fo [6, 7, 8] Tryz.call65 Tryz.func65 rfl ?_
 refine sk .a ?_
 refine q1 ?_
 refine sj ?_
 refine rk 1 (.k3 (.i 31 (eS 6 eTask a0) .n)) ?_
 obtain ⟨y1, hy1, h⟩ := bs h
 refine jc 32 [31] (restore_CheckTasks_ok n a0 y1 hy1) ?_
 refine jk 1 (.d (.k3 (.i 9 (vi y1) .n))) ?_
 refine sk (.k4 (.i 34 (vb (y1 != (0 : Int))) .n)) ?_
 refine tc h (fun c1 h => ?_) (fun c1 h => ?_)
 ·refine sk (.i 6 .emp (.i 7 (vi 0) (.i 8 (vi y1) .n))) ?_
  refine q3 ?_
  have h := si h
  subst h
  exact DoneS.ret (S' := ⟨[(6, eS 1 vt ([] : List Str)), (7, vi 0), (8, vi y1)], []⟩) (Sees.trans (Sees.vco (fr' := [(6, eS 1 vt ([] : List Str)), (7, vi 0), (8, vi y1)]) (.cons .sl (.cons .same (.cons .same .nil)))) sy) rfl rfl
 refine q2 ?_
 refine q1 ?_
 refine sj ?_
 refine rk 1 (.k3 (.i 36 (eS 3 eStocked a1) .n)) ?_
 obtain ⟨y2, hy2, h⟩ := bs h
 refine jc 37 [36] (restore_CheckStock_ok n a1 y2 hy2) ?_
 refine jk 1 (.d (.k3 (.i 10 (vi y2) .n))) ?_
 refine sk (.k4 (.i 39 (vb (y2 != (0 : Int))) .n)) ?_
 refine tc h (fun c2 h => ?_) (fun c2 h => ?_)
 ·refine sk (.i 6 .emp (.i 7 (vi 0) (.i 8 (vi y2) .n))) ?_
  refine q3 ?_
  have h := si h
  subst h
  exact DoneS.ret (S' := ⟨[(6, eS 1 vt ([] : List Str)), (7, vi 0), (8, vi y2)], []⟩) (Sees.trans (Sees.vco (fr' := [(6, eS 1 vt ([] : List Str)), (7, vi 0), (8, vi y2)]) (.cons .sl (.cons .same (.cons .same .nil)))) sy) rfl rfl
 refine q2 ?_
 refine sk (.k3 (.i 11 (eS 6 eTask a0) .n)) ?_
 refine q1 ?_
 refine sj ?_
 refine rk 2 (.k4 (.i 42 (eS 6 eTask a0) (.i 43 (eS 1 vt a2) .n))) ?_
 obtain ⟨y3, hy3, h⟩ := bs h
 refine jc 44 [42, 43] (restore_list_checkSet_ok n a0 a2 y3 hy3) ?_
 refine jk 1 (.d (.k4 (.i 12 (vi y3) .n))) ?_
 refine sk (.k4 (.k (.i 46 (vb (y3 != (0 : Int))) .n))) ?_
 refine tc h (fun c3 h => ?_) (fun c3 h => ?_)
 ·refine sk (.i 6 .emp (.i 7 (vi 0) (.i 8 (vi y3) .n))) ?_
  refine q3 ?_
  have h := si h
  subst h
  exact DoneS.ret (S' := ⟨[(6, eS 1 vt ([] : List Str)), (7, vi 0), (8, vi y3)], []⟩) (Sees.trans (Sees.vco (fr' := [(6, eS 1 vt ([] : List Str)), (7, vi 0), (8, vi y3)]) (.cons .sl (.cons .same (.cons .same .nil)))) sy) rfl rfl
 refine q2 ?_
 refine sko (.k4 (.i 13 (.ptr 0 0 0) .n)) [some (.row 3 [.agg [.emp, .emp, .emp]])] ?_
 refine TriE.seqK h (fun (v8 : (List Int)) => St.mk [(0, eS 6 eTask a0), (2, eS 1 vt a2), (11, eS 6 eTask a0), (13, .ptr 0 0 0)] [some (.row 3 [.agg [.emp, .emp, .own 1 0 v8.length]]), some (.row 1 (List.map vi v8))]) ?_ ?_
 ·rintro v8 h
  refine q1 ?_
  refine sj ?_
  refine rk 1 (.k4 (.i 75 (eS 6 eTask a0) .n)) ?_
  refine jo 76 (.len 0 75) (ok_len_m rfl) ?_
  refine jo 77 (.bin .gtr false 76 (ki 14)) (n_gtr (i := a0.length) (j := 14) rfl rfl) ?_
  refine jf (.d2 (.k4 (.i 77 (vb (decide (14 < a0.length))) .n))) ?_
  refine tc h (fun c8 h => ?_) (fun c8 h => ?_)
  ·refine sk (.i 6 .emp (.i 7 (vi 0) (.i 8 (vi 8) .n))) ?_
   refine q3 ?_
   have h := si h
   subst h
   exact DoneS.ret (S' := ⟨[(6, eS 1 vt ([] : List Str)), (7, vi 0), (8, vi 8)], []⟩) (Sees.trans (Sees.vco (fr' := [(6, eS 1 vt ([] : List Str)), (7, vi 0), (8, vi 8)]) (.cons .sl (.cons .same (.cons .same .nil)))) (sc [] (by decide) (by kernel_rfl) ObRen.nil rfl rfl)) rfl rfl
  refine q2 ?_
  refine TriE.seqK h (fun (t : (List (List Int)) × (List Int)) => match t with | (v24, v25) => St.mk [(0, eS 6 eTask a0), (2, eS 1 vt a2), (11, eS 6 eTask a0), (13, .ptr 0 0 0)] [some (.row 3 [.agg [.own 2 0 v25.length, .own 3 0 v24.length, .own 1 0 v8.length]]), some (.row 1 (List.map vi v8)), some (.row 1 (List.map (vk .u64) v25)), some (.row 1 (List.map (eS 1 (vk .u64)) v24))]) ?_ ?_
  ·rintro ⟨v24, v25⟩ h
   refine sk (.k4 (.i 23 .emp (.i 24 (vi (-1)) .n))) ?_
   refine sj ?_
   refine rk 2 (.k (.d (.k4 (.i 122 (eS 6 eTask a0) (.i 123 (eS 1 vt a2) .n))))) ?_
   obtain ⟨y26, hy26, h⟩ := bs h
   refine jc 124 [122, 123] (restore_list_bits_ok n a0 a2 y26 hy26) ?_
   refine jk 1 (.d (.k4 (.k (.i 25 (vk .u64 y26) .n)))) ?_
   refine TriE.seqK h (fun (t : (List Str) × Int) => match t with | (v64, v65) => St.mk [(23, eS 1 vt v64), (24, vi v65)] []) ?_ ?_
   ·rintro ⟨v64, v65⟩ h
    refine sk (.i 6 (eS 1 vt v64) (.i 7 (vi v65) (.i 8 (vi 0) .n))) ?_
    refine q3 ?_
    have h := si h
    subst h
    exact DoneS.ret Sees.refl rfl rfl
   intro k8 h
   refine sj ?_
   refine rk 1 (.d (.k4 (.k (.i 125 (eS 6 eTask a0) .n)))) ?_
   refine jo 126 (.len 0 125) (ok_len_m rfl) ?_
   obtain ⟨c17, h⟩ := ck h
   refine jo 127 (.bin .shl false (.c (.p (.int .u64 1))) 126) (r_shl rfl rfl c17) ?_
   refine jk 1 (.d2 (.k4 (.k (.i 127 (vk .u64 (IntKind.u64.wrap (1 * 2 ^ (min (a0.length : Int).toNat 64)))) (.i 128 (vk .u64 0) .n))))) ?_
   refine q4 ?_
   refine TriE.sees (S' := ⟨[(11, eS 6 eTask a0), (13, .ptr 0 0 0), (23, eS 1 vt ([] : List Str)), (24, vi (-1)), (25, vk .u64 y26), (127, vk .u64 (IntKind.u64.wrap (1 * 2 ^ (min (a0.length : Int).toNat 64)))), (128, vk .u64 0)], [some (.row 3 [.agg [.own 2 0 v25.length, .own 3 0 v24.length, .own 1 0 v8.length]]), some (.row 1 (List.map vi v8)), some (.row 1 (List.map (vk .u64) v25)), some (.row 1 (List.map (eS 1 (vk .u64)) v24))]⟩) (Sees.trans (Sees.vco (fr' := [(11, eS 6 eTask a0), (13, .ptr 0 0 0), (23, eS 1 vt ([] : List Str)), (24, vi (-1)), (25, vk .u64 y26), (127, vk .u64 (IntKind.u64.wrap (1 * 2 ^ (min (a0.length : Int).toNat 64)))), (128, vk .u64 0)]) (.cons .same (.cons .same (.cons .sl (.cons .same (.cons .same (.cons .same (.cons .same .nil)))))))) sy) ?_
   refine TriE.loopN h (fun (t : (List Str) × Int × Int) => match t with | (v44, v45, v46) => St.mk [(11, eS 6 eTask a0), (13, .ptr 0 0 0), (23, eS 1 vt v44), (24, vi v45), (25, vk .u64 y26), (127, vk .u64 (IntKind.u64.wrap (1 * 2 ^ (min (a0.length : Int).toNat 64)))), (128, vk .u64 v46)] [some (.row 3 [.agg [.own 2 0 v25.length, .own 3 0 v24.length, .own 1 0 v8.length]]), some (.row 1 (List.map vi v8)), some (.row 1 (List.map (vk .u64) v25)), some (.row 1 (List.map (eS 1 (vk .u64)) v24))]) rfl ?_
   clear h
   rintro back ⟨v44, v45, v46⟩ h
   dsimp only [restore_Cheapest_L5] at h
   refine sk (.k4 (.k3 (.i 129 (vb (decide (v46 < (IntKind.u64.wrap (1 * 2 ^ (min (a0.length : Int).toNat 64)))))) .n))) ?_
   refine q1 ?_
   refine tc h (fun c18 h => ?_) (fun c18 h => ?_)
   ·refine q2 ?_
    refine TriE.seqK h (fun (t : (List Str) × Int) => match t with | (v62, v63) => St.mk [(11, eS 6 eTask a0), (13, .ptr 0 0 0), (23, eS 1 vt v62), (24, vi v63), (25, vk .u64 y26), (127, vk .u64 (IntKind.u64.wrap (1 * 2 ^ (min (a0.length : Int).toNat 64)))), (128, vk .u64 v46)] [some (.row 3 [.agg [.own 2 0 v25.length, .own 3 0 v24.length, .own 1 0 v8.length]]), some (.row 1 (List.map vi v8)), some (.row 1 (List.map (vk .u64) v25)), some (.row 1 (List.map (eS 1 (vk .u64)) v24))]) ?_ ?_
    ·rintro ⟨v62, v63⟩ h
     refine tk (.k4 (.k2 (.i 128 (vk .u64 (IntKind.u64.wrap (v46 + 1))) .n))) ?_
     exact Vs.intro Sees.refl ⟨(v62, v63, IntKind.u64.wrap (v46 + 1)), rfl, h⟩
    intro k7 h
    refine q4 ?_
    refine sk (.k4 (.k3 (.i 26 (vk .u64 v46) .n))) ?_
    refine q1 ?_
    refine sj ?_
    refine rk 5 (.k4 (.k4 (.i 135 (vb ((iAndNot .u64 y26 v46) != (0 : Int))) .n))) ?_
    refine gj (.ptr 0 0 0) 136 (.mov 13) 135 false rfl ?_
    refine gj (vk .u64 v46) 137 (.mov 26) 135 false rfl ?_
    obtain ⟨y47, hy47, h⟩ := bs h
    refine RegJ.op (Op1.callg (g := !((iAndNot .u64 y26 v46) != (0 : Int))) (y' := vb y47) (obx := [some (.row 3 [.agg [.own 2 0 v25.length, .own 3 0 v24.length, .own 1 0 v8.length]]), some (.row 1 (List.map (vk .u64) v25)), some (.row 1 (List.map (eS 1 (vk .u64)) v24)), some (.row 1 (List.map vi v8))]) _ _ (cy (IG 138 (.call 134 [136, 137]) 135 false)) rfl (fun hg => restore_choice_closed_ok n v25 v24 v8 v46 y47 (gcall_some hy47 hg)) [0, 2, 3, 1] (fun hg => by kernel_rfl) (fun hg => (.cons rfl (.cons hg (.cons hg .nil)))) (by kernel_rfl) (by kernel_rfl) (.cons rfl (.same (row_ren (vk_frz .u64) _ _ _) (.same (row_ren (eS_frz 1 (vk .u64)) _ _ _) (.same (row_ren vi_frz _ _ _) .nil)))) (by kernel_rfl) (by kernel_rfl)) ?_
    refine gk (vb (!y47)) 139 (.un .not 138) 135 false rfl (fun hg => (.cons hg .nil)) ?_
    refine po 140 135 139 rfl rfl ?_
    refine jf (.d4 (.d (.k4 (.k4 (.i 140 (vb (((iAndNot .u64 y26 v46) != (0 : Int)) || (!y47))) .n))))) ?_
    refine tc h (fun c19 h => ?_) (fun c19 h => ?_)
    ·refine q5 ?_
     exact Vs.intro sy ⟨(v44, v45), rfl, h⟩
    refine q2 ?_
    refine sk (.k4 (.k4 (.i 27 (vi 0) .n))) ?_
    refine TriE.seqK h (fun (v52 : Int) => St.mk [(11, eS 6 eTask a0), (13, .ptr 0 0 0), (23, eS 1 vt v44), (24, vi v45), (25, vk .u64 y26), (127, vk .u64 (IntKind.u64.wrap (1 * 2 ^ (min (a0.length : Int).toNat 64)))), (128, vk .u64 v46), (26, vk .u64 v46), (27, vi v52)] [some (.row 3 [.agg [.own 2 0 v25.length, .own 3 0 v24.length, .own 1 0 v8.length]]), some (.row 1 (List.map vi v8)), some (.row 1 (List.map (vk .u64) v25)), some (.row 1 (List.map (eS 1 (vk .u64)) v24))]) ?_ ?_
    ·rintro v52 h
     refine sj ?_
     refine rk 2 (.k4 (.k3 (.d (.k (.i 160 (eS 6 eTask a0) (.i 161 (vk .u64 v46) .n)))))) ?_
     obtain ⟨y53, hy53, h⟩ := bs h
     refine jc 162 [160, 161] (restore_list_names_ok n a0 v46 y53 hy53) ?_
     refine jk 1 (.d (.k4 (.k4 (.i 30 (eS 1 vt y53) .n)))) ?_
     refine TriE.seqK h (fun (v60 : Bool) => St.mk [(11, eS 6 eTask a0), (13, .ptr 0 0 0), (23, eS 1 vt v44), (24, vi v45), (25, vk .u64 y26), (127, vk .u64 (IntKind.u64.wrap (1 * 2 ^ (min (a0.length : Int).toNat 64)))), (128, vk .u64 v46), (27, vi v52), (30, eS 1 vt y53), (180, vb v60)] [some (.row 3 [.agg [.own 2 0 v25.length, .own 3 0 v24.length, .own 1 0 v8.length]]), some (.row 1 (List.map vi v8)), some (.row 1 (List.map (vk .u64) v25)), some (.row 1 (List.map (eS 1 (vk .u64)) v24))]) ?_ ?_
     ·rintro v60 h
      refine tc h (fun c26 h => ?_) (fun c26 h => ?_)
      ·refine tk (.k2 (.d2 (.k3 (.i 23 (eS 1 vt y53) (.i 24 (vi v52) .n))))) ?_
       exact Vs.intro sy ⟨(y53, v52), rfl, h⟩
      refine q2 ?_
      exact Vs.intro sy ⟨(v44, v45), rfl, h⟩
     intro k6 h
     refine q6 ?_
     refine rk 3 (.k4 (.k4 (.k (.i 165 (vb (decide (v45 < (0 : Int)))) .n)))) ?_
     refine gj (vi v52) 166 (.mov 27) 165 false rfl ?_
     refine gj (vi v45) 167 (.mov 24) 165 false rfl ?_
     obtain ⟨y54, hy54, h⟩ := bs h
     refine gc 168 [166, 167] 165 false rfl (fun hg => cmp_Compare_int_ok n v52 v45 y54 (gcall_some hy54 hg)) (fun hg => (.cons rfl (.cons hg (.cons hg .nil)))) (fun hg => by kernel_rfl) ?_
     refine gj (eS 1 vt y53) 169 (.mov 30) 165 false rfl ?_
     refine gv 170 (.len 0 169) 165 false rfl (fun hg => (ok_len_m rfl)) (fun hg => (.cons hg .nil)) ?_
     refine gj (eS 1 vt v44) 171 (.mov 23) 165 false rfl ?_
     refine gv 172 (.len 0 171) 165 false rfl (fun hg => (ok_len_m rfl)) (fun hg => (.cons hg .nil)) ?_
     obtain ⟨y55, hy55, h⟩ := bs h
     refine gc 173 [170, 172] 165 false rfl (fun hg => cmp_Compare_int_ok n (y53.length : Int) (v44.length : Int) y55 (gcall_some hy55 hg)) (fun hg => (.cons rfl (.cons hg (.cons hg .nil)))) (fun hg => by kernel_rfl) ?_
     refine gj (eS 1 vt y53) 174 (.mov 30) 165 false rfl ?_
     refine gj (eS 1 vt v44) 175 (.mov 23) 165 false rfl ?_
     obtain ⟨y56, hy56, h⟩ := bs h
     refine gc 176 [174, 175] 165 false rfl (fun hg => slices_Compare_string_ok n y53 v44 y56 (gcall_some hy56 hg)) (fun hg => (.cons rfl (.cons hg (.cons hg .nil)))) (fun hg => by kernel_rfl) ?_
     rcases Bool.eq_false_or_eq_true (!(decide (v45 < (0 : Int)))) with c25 | c25
     ·have h := cond_t h c25
      refine RegJ.op (Op1.effk (v := .own 4 0 3) (ob' := [some (.row 3 [.agg [.own 2 0 v25.length, .own 3 0 v24.length, .own 1 0 v8.length]]), some (.row 1 (List.map vi v8)), some (.row 1 (List.map (vk .u64) v25)), some (.row 1 (List.map (eS 1 (vk .u64)) v24)), some (.row 1 [vi y54, vi y55, vi y56])]) _ _ (cy (IG 177 (.bslice 1 (.p (.int .i64 0)) 3 [(0, 168), (1, 173), (2, 176)]) 165 false)) (congrArg some c25) (by kernel_rfl) (.cons c25 (.cons c25 (.cons c25 .nil)))) ?_
      obtain ⟨y57, hy57, h⟩ := bs h
      refine RegJ.op (Op1.call (y' := vi y57) (obx := [some (.row 1 [vi y54, vi y55, vi y56])]) (oby := [some (.row 1 (List.map vi ([y54, y55, y56] : List Int)))]) (ob2 := [some (.row 3 [.agg [.own 2 0 v25.length, .own 3 0 v24.length, .own 1 0 v8.length]]), some (.row 1 (List.map vi v8)), some (.row 1 (List.map (vk .u64) v25)), some (.row 1 (List.map (eS 1 (vk .u64)) v24)), some (.row 1 (List.map vi ([y54, y55, y56] : List Int)))]) _ _ (cy (IG 178 (.call 136 [177]) 165 false)) (congrArg some c25) (cmp_Or_int_ok n ([y54, y55, y56] : List Int) y57 hy57) [4] (by kernel_rfl) (.cons rfl (.cons rfl .nil)) (by kernel_rfl) (by kernel_rfl) (.same (row_ren vi_frz _ _ _) .nil) (by kernel_rfl) (.same (row_ren vi_frz _ _ _) .nil) (by kernel_rfl)) ?_
      refine RegJ.op (Op1.effk (v := vb (decide (y57 < (0 : Int)))) (ob' := [some (.row 3 [.agg [.own 2 0 v25.length, .own 3 0 v24.length, .own 1 0 v8.length]]), some (.row 1 (List.map vi v8)), some (.row 1 (List.map (vk .u64) v25)), some (.row 1 (List.map (eS 1 (vk .u64)) v24)), some (.row 1 (List.map vi ([y54, y55, y56] : List Int)))]) _ _ (cy (IG 179 (.bin .lss false 178 (ki 0)) 165 false)) (congrArg some c25) (by kernel_rfl) (.cons rfl (.cons rfl .nil))) ?_
      refine po 180 165 179 rfl rfl ?_
      refine jf (.d4 (.d4 (.d4 (.d3 (.k4 (.k4 (.k (.i 177 (.own 4 0 3) (.i 178 (vi y57) (.i 179 (vb (decide (y57 < (0 : Int)))) (.i 180 (vb ((decide (v45 < (0 : Int))) || (decide (y57 < (0 : Int))))) .n))))))))))) ?_
      exact Vs.intro (sc [0, 1, 2, 3] (by decide) (by kernel_rfl) (.cons rfl (obRen_row vi_frz rfl (obRen_row (vk_frz .u64) rfl (obRen_row (eS_frz 1 (vk .u64)) rfl .nil)))) rfl rfl) ⟨((decide (v45 < (0 : Int))) || (decide (y57 < (0 : Int)))), rfl, h⟩
     have h := cond_f h c25
     refine RegJ.op (Op1.skipc (g := !(decide (v45 < (0 : Int)))) (v := vb false) (by kernel_rfl : compAt _ _ _ _ = some ⟨(some 177), .bslice 1 (.p (.int .i64 0)) 3 [(0, 168), (1, 173), (2, 176)], (some (165, false)), [168, 173, 176], 0⟩) rfl c25) ?_
     refine RegJ.op (Op1.skipc (g := !(decide (v45 < (0 : Int)))) (v := vb false) (by kernel_rfl : compAt _ _ _ _ = some ⟨(some 178), .call 136 [177], (some (165, false)), [(.c (.fn (.func 136) [] [])), 177], 2⟩) rfl c25) ?_
     refine RegJ.op (Op1.skipc (g := !(decide (v45 < (0 : Int)))) (v := vb false) (by kernel_rfl : compAt _ _ _ _ = some ⟨(some 179), .bin .lss false 178 (ki 0), (some (165, false)), [178, (ki 0)], 0⟩) rfl c25) ?_
     refine po 180 165 179 rfl rfl ?_
     refine jp [(11, eS 6 eTask a0), (13, .ptr 0 0 0), (23, eS 1 vt v44), (24, vi v45), (25, vk .u64 y26), (127, vk .u64 (IntKind.u64.wrap (1 * 2 ^ (min (a0.length : Int).toNat 64)))), (128, vk .u64 v46), (27, vi v52), (30, eS 1 vt y53), (180, vb ((decide (v45 < (0 : Int))) || false))] ?_
     exact Vs.intro Sees.refl ⟨((decide (v45 < (0 : Int))) || false), rfl, h⟩
    intro k5 h
    refine sk (.k4 (.k4 (.k (.i 144 (.own 1 0 v8.length) (.i 145 (vi (v8.length : Int)) (.i 146 (vi 0) .n)))))) ?_
    refine q4 ?_
    refine ts (.k4 (.k4 (.k3 (.i 146 (vi 0) .n)))) ?_
    refine TriE.loopN h (fun (t : Int × Nat) => match t with | (v49, v50) => St.mk [(11, eS 6 eTask a0), (13, .ptr 0 0 0), (23, eS 1 vt v44), (24, vi v45), (25, vk .u64 y26), (127, vk .u64 (IntKind.u64.wrap (1 * 2 ^ (min (a0.length : Int).toNat 64)))), (128, vk .u64 v46), (26, vk .u64 v46), (27, vi v49), (144, .own 1 0 v8.length), (145, vi (v8.length : Int)), (146, vi v50)] [some (.row 3 [.agg [.own 2 0 v25.length, .own 3 0 v24.length, .own 1 0 v8.length]]), some (.row 1 (List.map vi v8)), some (.row 1 (List.map (vk .u64) v25)), some (.row 1 (List.map (eS 1 (vk .u64)) v24))]) rfl ?_
    clear h
    rintro back ⟨v49, v50⟩ h
    dsimp only [restore_Cheapest_L4] at h
    refine sj ?_
    refine jo 147 (.bin .lss false 146 145) (n_lss (i := v50) (j := v8.length) rfl rfl) ?_
    refine jf (.d (.k4 (.k4 (.k4 (.i 147 (vb (decide (v50 < v8.length))) .n))))) ?_
    refine q1 ?_
    refine tc h (fun c20 h => ?_) (fun c20 h => ?_)
    ·refine q2 ?_
     refine TriE.seqK h (fun (v51 : Int) => St.mk [(11, eS 6 eTask a0), (13, .ptr 0 0 0), (23, eS 1 vt v44), (24, vi v45), (25, vk .u64 y26), (127, vk .u64 (IntKind.u64.wrap (1 * 2 ^ (min (a0.length : Int).toNat 64)))), (128, vk .u64 v46), (26, vk .u64 v46), (144, .own 1 0 v8.length), (145, vi (v8.length : Int)), (146, vi v50), (27, vi v51)] [some (.row 3 [.agg [.own 2 0 v25.length, .own 3 0 v24.length, .own 1 0 v8.length]]), some (.row 1 (List.map vi v8)), some (.row 1 (List.map (vk .u64) v25)), some (.row 1 (List.map (eS 1 (vk .u64)) v24))]) ?_ ?_
     ·rintro v51 h
      refine q6 ?_
      obtain ⟨c24, h⟩ := ck h
      refine jo 159 (.bin .add false 146 (ki 1)) (r_addn (i := v50) (j := 1) rfl rfl c24) ?_
      refine jk 1 (.d (.k4 (.k4 (.k2 (.d (.k (.i 146 (vi ((v50 + 1 : Nat) : Int)) .n))))))) ?_
      exact Vs.intro sy ⟨(v51, v50 + 1), rfl, h⟩
     intro k4 h
     refine q4 ?_
     refine sj ?_
     refine rk 1 (.k4 (.k4 (.k4 (.i 148 (vi v50) .n)))) ?_
     refine jo 149 (.iaddr 1 144 146) (ok_iaddr_o0 (j := v50) rfl rfl rfl rfl c20) ?_
     refine jo 150 (.load false 1 149) (ok_load_pm (l := v8) (e := vi) (v := vi (ix v8 v50)) rfl rfl c20 rfl) ?_
     refine jk 2 (.d2 (.k4 (.k4 (.k4 (.i 28 (vi v50) (.i 29 (vi (ix v8 v50)) .n)))))) ?_
     refine sj ?_
     refine rk 2 (.k4 (.k4 (.k4 (.d (.k (.i 151 (vk .u64 v46) (.i 152 (vi v50) .n))))))) ?_
     obtain ⟨c21, h⟩ := ck h
     refine jo 153 (.bin .shr false 151 152) (r_shr rfl rfl c21) ?_
     refine jk 2 (.d (.k4 (.k4 (.k4 (.k (.i 155 (vb ((iAnd .u64 (Int.fdiv v46 (2 ^ (min (v50 : Int).toNat 64))) 1) != (0 : Int))) .n)))))) ?_
     refine tc h (fun c22 h => ?_) (fun c22 h => ?_)
     ·refine q6 ?_
      refine rk 2 (.k4 (.k4 (.d (.k3 (.i 156 (vi v49) (.i 157 (vi (ix v8 v50)) .n)))))) ?_
      obtain ⟨c23, h⟩ := ck h
      refine jo 158 (.bin .add false 156 157) (r_add rfl rfl c23) ?_
      refine jk 1 (.d (.k4 (.k4 (.k3 (.i 27 (vi (v49 + (ix v8 v50))) .n))))) ?_
      exact Vs.intro Sees.refl ⟨(v49 + (ix v8 v50)), rfl, h⟩
     refine q2 ?_
     exact Vs.intro sy ⟨v49, rfl, h⟩
    refine q5 ?_
    exact Vs.intro sy ⟨v49, rfl, h⟩
   refine q5 ?_
   exact Vs.intro (sc [] (by decide) (by kernel_rfl) ObRen.nil rfl rfl) ⟨(v44, v45), rfl, h⟩
  intro k3 h
  refine sj ?_
  refine rk 1 (.k4 (.i 78 (eS 6 eTask a0) .n)) ?_
  refine jo 79 (.len 0 78) (ok_len_m rfl) ?_
  refine jk 1 (.d (.k4 (.k (.i 79 (vi (a0.length : Int)) (.i 80 (vi 0) .n))))) ?_
  refine q4 ?_
  refine TriE.sees (S' := ⟨[(0, eS 6 eTask a0), (2, eS 1 vt a2), (11, eS 6 eTask a0), (13, .ptr 0 0 0), (78, eS 6 eTask a0), (79, vi (a0.length : Int)), (80, vi 0)], [some (.row 3 [.agg [.own 2 0 ([] : List Int).length, .own 3 0 ([] : List (List Int)).length, .own 1 0 v8.length]]), some (.row 1 (List.map vi v8)), some (.row 1 (List.map (vk .u64) ([] : List Int))), some (.row 1 (List.map (eS 1 (vk .u64)) ([] : List (List Int))))]⟩) (Sees.trans (Sees.co (fr' := [(0, eS 6 eTask a0), (2, eS 1 vt a2), (11, eS 6 eTask a0), (13, .ptr 0 0 0), (78, eS 6 eTask a0), (79, vi (a0.length : Int)), (80, vi 0)]) (ob' := [some (.row 3 [.agg [.own 2 0 0, .emp, .own 1 0 v8.length]]), some (.row 1 (List.map vi v8))]) (.cons .same (.cons .same (.cons .same (.cons .same (.cons .same (.cons .same (.cons .same .nil))))))) (.cell (.cons .own (.cons .same (.cons .same .nil))) rfl (.same .nil)) 1) (Sees.trans (Sees.co (fr' := [(0, eS 6 eTask a0), (2, eS 1 vt a2), (11, eS 6 eTask a0), (13, .ptr 0 0 0), (78, eS 6 eTask a0), (79, vi (a0.length : Int)), (80, vi 0)]) (ob' := [some (.row 3 [.agg [.own 2 0 0, .own 3 0 0, .own 1 0 v8.length]]), some (.row 1 (List.map vi v8)), some (.row 1 (List.map (vk .u64) ([] : List Int)))]) (.cons .same (.cons .same (.cons .same (.cons .same (.cons .same (.cons .same (.cons .same .nil))))))) (.cell (.cons .same (.cons .own (.cons .same .nil))) rfl (.same (.same .nil))) 1) sy)) ?_
  refine TriE.loopN h (fun (t : Nat × (List Int) × (List (List Int))) => match t with | (v15, v16, v17) => St.mk [(0, eS 6 eTask a0), (2, eS 1 vt a2), (11, eS 6 eTask a0), (13, .ptr 0 0 0), (78, eS 6 eTask a0), (79, vi (a0.length : Int)), (80, vi v15)] [some (.row 3 [.agg [.own 2 0 v16.length, .own 3 0 v17.length, .own 1 0 v8.length]]), some (.row 1 (List.map vi v8)), some (.row 1 (List.map (vk .u64) v16)), some (.row 1 (List.map (eS 1 (vk .u64)) v17))]) rfl ?_
  clear h
  rintro back ⟨v15, v16, v17⟩ h
  dsimp only [restore_Cheapest_L3] at h
  refine sj ?_
  refine jo 81 (.bin .lss false 80 79) (n_lss (i := v15) (j := a0.length) rfl rfl) ?_
  refine jf (.d (.k4 (.k3 (.i 81 (vb (decide (v15 < a0.length))) .n)))) ?_
  refine q1 ?_
  refine tc h (fun c9 h => ?_) (fun c9 h => ?_)
  ·refine q2 ?_
   refine q7 ?_
   refine sj ?_
   refine jo 82 (.iaddr 6 78 80) (ok_iaddr_m (j := v15) rfl rfl rfl c9) ?_
   refine jo 83 (.load true 6 82) (ok_load_fm (v := .agg [vt ((ix a0 v15).Name), vi ((ix a0 v15).Cents), vi ((ix a0 v15).Hours), eS 1 vt ((ix a0 v15).Needs), eS 1 (eS 1 vt) ((ix a0 v15).OneOf), eS 2 ePartCount ((ix a0 v15).Parts)]) rfl c9 rfl) ?_
   refine jko 2 (.d2 (.k4 (.k3 (.i 19 (.ptr 4 0 0) .n)))) [some (.row 3 [.agg [.own 2 0 v16.length, .own 3 0 v17.length, .own 1 0 v8.length]]), some (.row 1 (List.map vi v8)), some (.row 1 (List.map (vk .u64) v16)), some (.row 1 (List.map (eS 1 (vk .u64)) v17)), some (.row 6 [.agg [vt ((ix a0 v15).Name), vi ((ix a0 v15).Cents), vi ((ix a0 v15).Hours), eS 1 vt ((ix a0 v15).Needs), eS 1 (eS 1 vt) ((ix a0 v15).OneOf), eS 2 ePartCount ((ix a0 v15).Parts)]])] ?_
   refine sk (.k4 (.k4 (.i 20 .emp .n))) ?_
   refine TriE.seqK h (fun (v22 : (List Int)) => St.mk [(0, eS 6 eTask a0), (2, eS 1 vt a2), (11, eS 6 eTask a0), (13, .ptr 0 0 0), (78, eS 6 eTask a0), (79, vi (a0.length : Int)), (80, vi v15), (19, .ptr 4 0 0), (20, .own 5 0 v22.length)] [some (.row 3 [.agg [.own 2 0 v16.length, .own 3 0 v17.length, .own 1 0 v8.length]]), some (.row 1 (List.map vi v8)), some (.row 1 (List.map (vk .u64) v16)), some (.row 1 (List.map (eS 1 (vk .u64)) v17)), some (.row 6 [.agg [vt ((ix a0 v15).Name), vi ((ix a0 v15).Cents), vi ((ix a0 v15).Hours), eS 1 vt ((ix a0 v15).Needs), eS 1 (eS 1 vt) ((ix a0 v15).OneOf), eS 2 ePartCount ((ix a0 v15).Parts)]]), some (.row 1 (List.map (vk .u64) v22))]) ?_ ?_
   ·rintro v22 h
    refine TriE.sees (Sees.freeze 5 (fr' := [(0, eS 6 eTask a0), (2, eS 1 vt a2), (11, eS 6 eTask a0), (13, .ptr 0 0 0), (78, eS 6 eTask a0), (79, vi (a0.length : Int)), (80, vi v15), (19, .ptr 4 0 0), (20, eS 1 (vk .u64) v22)]) (ob' := [some (.row 3 [.agg [.own 2 0 v16.length, .own 3 0 v17.length, .own 1 0 v8.length]]), some (.row 1 (List.map vi v8)), some (.row 1 (List.map (vk .u64) v16)), some (.row 1 (List.map (eS 1 (vk .u64)) v17)), some (.row 6 [.agg [vt ((ix a0 v15).Name), vi ((ix a0 v15).Cents), vi ((ix a0 v15).Hours), eS 1 vt ((ix a0 v15).Needs), eS 1 (eS 1 vt) ((ix a0 v15).OneOf), eS 2 ePartCount ((ix a0 v15).Parts)]]), none]) rfl (frz_row (vk_frzE .u64) _) (.cons (.refl _) (.cons (.refl _) (.cons (.refl _) (.cons (.refl _) (.cons (.refl _) (.cons (.refl _) (.cons (.refl _) (.cons (.refl _) (.cons (frz_full rfl) .nil))))))))) rfl) ?_
    refine ts .a ?_
    refine TriE.draw (by kernel_rfl) ?_
    refine dk 9 (.i 106 (eS 1 vt ((ix a0 v15).Needs)) (.i 105 (.ptr 4 0 3) (.i 104 (eS 6 eTask a0) (.i 103 (.own 2 0 v16.length) (.i 102 (.ptr 0 0 0) (.i 101 (.ptr 0 0 0) (.i 100 (.ptr 0 0 0) (.i 99 (.ptr 0 0 0) (.i 98 (.ptr 0 0 0) .a))))))))) ?_
    obtain ⟨y23, hy23, h⟩ := bs h
    refine dc (vk .u64 y23) 0 107 [104, 106] (restore_list_bits_ok n a0 ((ix a0 v15).Needs) y23 hy23) [] rfl ObsRen.nil ObsRen.nil rfl (.inr ⟨rfl, rfl⟩) ?_
    refine dko 1 (.i 108 (.own 16 0 1) .a) [some (.row 3 [.agg [.own 2 0 v16.length, .own 3 0 v17.length, .own 1 0 v8.length]]), some (.row 1 (List.map vi v8)), some (.row 1 (List.map (vk .u64) v16)), some (.row 1 (List.map (eS 1 (vk .u64)) v17)), some (.row 6 [.agg [vt ((ix a0 v15).Name), vi ((ix a0 v15).Cents), vi ((ix a0 v15).Hours), eS 1 vt ((ix a0 v15).Needs), eS 1 (eS 1 vt) ((ix a0 v15).OneOf), eS 2 ePartCount ((ix a0 v15).Parts)]]), none, none, none, none, none, none, none, none, none, none, none, some (.row 1 [vk .u64 y23])] ?_
    obtain ⟨c14, h⟩ := ck h
    refine dx 109 (.app 1 8 103 108) _ (ok_app_own (l := v16) (l2 := ([y23] : List Int)) (e := (vk .u64)) (u := .own 16 0 1) rfl rfl rfl rfl rfl c14) rfl rfl ?_
    refine dko 6 (.i 115 (.own 23 0 1) (.i 114 (eS 1 (vk .u64) v22) (.i 113 (.own 3 0 v17.length) (.i 112 (.ptr 0 0 1) (.i 111 (.ptr 0 0 0) (.i 110 (.ptr 0 0 0) .a)))))) [some (.row 3 [.agg [.own 2 0 v16.length, .own 3 0 v17.length, .own 1 0 v8.length]]), some (.row 1 (List.map vi v8)), none, some (.row 1 (List.map (eS 1 (vk .u64)) v17)), some (.row 6 [.agg [vt ((ix a0 v15).Name), vi ((ix a0 v15).Cents), vi ((ix a0 v15).Hours), eS 1 vt ((ix a0 v15).Needs), eS 1 (eS 1 vt) ((ix a0 v15).OneOf), eS 2 ePartCount ((ix a0 v15).Parts)]]), none, none, none, none, none, none, none, none, none, none, none, some (.row 1 [vk .u64 y23]), some (.row 1 (List.map (vk .u64) (v16 ++ ([y23] : List Int)))), none, none, none, none, none, some (.row 1 [eS 1 (vk .u64) v22])] ?_
    obtain ⟨c15, h⟩ := ck h
    refine dx 116 (.app 1 24 113 115) _ (ok_app_own (l := v17) (l2 := ([v22] : List (List Int))) (e := (eS 1 (vk .u64))) (u := .own 23 0 1) rfl rfl rfl rfl rfl c15) rfl rfl ?_
    refine dko 6 (.i 120 (.ptr 0 0 1) (.i 119 (.ptr 0 0 0) (.i 118 (.ptr 0 0 0) (.i 117 (.ptr 0 0 0) .a)))) [some (.row 3 [.agg [.own 17 0 ((v16 ++ ([y23] : List Int)).length), .own 24 0 ((v17 ++ ([v22] : List (List Int))).length), .own 1 0 v8.length]]), some (.row 1 (List.map vi v8)), none, none, some (.row 6 [.agg [vt ((ix a0 v15).Name), vi ((ix a0 v15).Cents), vi ((ix a0 v15).Hours), eS 1 vt ((ix a0 v15).Needs), eS 1 (eS 1 vt) ((ix a0 v15).OneOf), eS 2 ePartCount ((ix a0 v15).Parts)]]), none, none, none, none, none, none, none, none, none, none, none, some (.row 1 [vk .u64 y23]), some (.row 1 (List.map (vk .u64) (v16 ++ ([y23] : List Int)))), none, none, none, none, none, some (.row 1 [eS 1 (vk .u64) v22]), some (.row 1 (List.map (eS 1 (vk .u64)) (v17 ++ ([v22] : List (List Int))))), none, none, none, none, none, none] ?_
    refine dfi (ob' := [some (.row 3 [.agg [.own 2 0 ((v16 ++ ([y23] : List Int)).length), .own 3 0 ((v17 ++ ([v22] : List (List Int))).length), .own 1 0 v8.length]]), some (.row 1 (List.map vi v8)), some (.row 1 (List.map (vk .u64) (v16 ++ ([y23] : List Int)))), some (.row 1 (List.map (eS 1 (vk .u64)) (v17 ++ ([v22] : List (List Int)))))]) (.d4 (.d4 (.d4 (.d4 (.d4 (.d3 (.k4 (.k3 .n)))))))) [0, 1, 17, 24] (.cons rfl (obRen_row vi_frz rfl (obRen_row (vk_frz .u64) rfl (obRen_row (eS_frz 1 (vk .u64)) rfl .nil)))) ?_
    refine q6 ?_
    obtain ⟨c16, h⟩ := ck h
    refine jo 121 (.bin .add false 80 (ki 1)) (r_addn (i := v15) (j := 1) rfl rfl c16) ?_
    refine jk 1 (.d (.k4 (.k2 (.i 80 (vi ((v15 + 1 : Nat) : Int)) .n)))) ?_
    exact Vs.intro sy ⟨(v15 + 1, (v16 ++ ([y23] : List Int)), (v17 ++ ([v22] : List (List Int)))), rfl, h⟩
   intro k2 h
   refine sj ?_
   refine rk 2 (.k4 (.k4 (.k (.i 85 (eS 1 (eS 1 vt) ((ix a0 v15).OneOf)) .n)))) ?_
   refine jo 86 (.len 0 85) (ok_len_m rfl) ?_
   refine jk 1 (.d (.k4 (.k4 (.k2 (.i 86 (vi ((((ix a0 v15).OneOf).length : Nat) : Int)) (.i 87 (vi 0) .n)))))) ?_
   refine q4 ?_
   refine TriE.sees (S' := ⟨[(0, eS 6 eTask a0), (2, eS 1 vt a2), (11, eS 6 eTask a0), (13, .ptr 0 0 0), (78, eS 6 eTask a0), (79, vi (a0.length : Int)), (80, vi v15), (19, .ptr 4 0 0), (20, .own 5 0 ([] : List Int).length), (85, eS 1 (eS 1 vt) ((ix a0 v15).OneOf)), (86, vi ((((ix a0 v15).OneOf).length : Nat) : Int)), (87, vi 0)], [some (.row 3 [.agg [.own 2 0 v16.length, .own 3 0 v17.length, .own 1 0 v8.length]]), some (.row 1 (List.map vi v8)), some (.row 1 (List.map (vk .u64) v16)), some (.row 1 (List.map (eS 1 (vk .u64)) v17)), some (.row 6 [.agg [vt ((ix a0 v15).Name), vi ((ix a0 v15).Cents), vi ((ix a0 v15).Hours), eS 1 vt ((ix a0 v15).Needs), eS 1 (eS 1 vt) ((ix a0 v15).OneOf), eS 2 ePartCount ((ix a0 v15).Parts)]]), some (.row 1 (List.map (vk .u64) ([] : List Int)))]⟩) (Sees.trans (Sees.co (fr' := [(0, eS 6 eTask a0), (2, eS 1 vt a2), (11, eS 6 eTask a0), (13, .ptr 0 0 0), (78, eS 6 eTask a0), (79, vi (a0.length : Int)), (80, vi v15), (19, .ptr 4 0 0), (20, .own 5 0 0), (85, eS 1 (eS 1 vt) ((ix a0 v15).OneOf)), (86, vi ((((ix a0 v15).OneOf).length : Nat) : Int)), (87, vi 0)]) (ob' := [some (.row 3 [.agg [.own 2 0 v16.length, .own 3 0 v17.length, .own 1 0 v8.length]]), some (.row 1 (List.map vi v8)), some (.row 1 (List.map (vk .u64) v16)), some (.row 1 (List.map (eS 1 (vk .u64)) v17)), some (.row 6 [.agg [vt ((ix a0 v15).Name), vi ((ix a0 v15).Cents), vi ((ix a0 v15).Hours), eS 1 vt ((ix a0 v15).Needs), eS 1 (eS 1 vt) ((ix a0 v15).OneOf), eS 2 ePartCount ((ix a0 v15).Parts)]])]) (.cons .same (.cons .same (.cons .same (.cons .same (.cons .same (.cons .same (.cons .same (.cons .same (.cons .own (.cons .same (.cons .same (.cons .same .nil)))))))))))) (.same (.same (.same (.same (.same .nil))))) 1) sy) ?_
   refine TriE.loopN h (fun (t : (List Int) × Nat) => match t with | (v19, v20) => St.mk [(0, eS 6 eTask a0), (2, eS 1 vt a2), (11, eS 6 eTask a0), (13, .ptr 0 0 0), (78, eS 6 eTask a0), (79, vi (a0.length : Int)), (80, vi v15), (19, .ptr 4 0 0), (20, .own 5 0 v19.length), (85, eS 1 (eS 1 vt) ((ix a0 v15).OneOf)), (86, vi ((((ix a0 v15).OneOf).length : Nat) : Int)), (87, vi v20)] [some (.row 3 [.agg [.own 2 0 v16.length, .own 3 0 v17.length, .own 1 0 v8.length]]), some (.row 1 (List.map vi v8)), some (.row 1 (List.map (vk .u64) v16)), some (.row 1 (List.map (eS 1 (vk .u64)) v17)), some (.row 6 [.agg [vt ((ix a0 v15).Name), vi ((ix a0 v15).Cents), vi ((ix a0 v15).Hours), eS 1 vt ((ix a0 v15).Needs), eS 1 (eS 1 vt) ((ix a0 v15).OneOf), eS 2 ePartCount ((ix a0 v15).Parts)]]), some (.row 1 (List.map (vk .u64) v19))]) rfl ?_
   clear h
   rintro back ⟨v19, v20⟩ h
   dsimp only [restore_Cheapest_L2] at h
   refine sj ?_
   refine jo 88 (.bin .lss false 87 86) (n_lss (i := v20) (j := ((ix a0 v15).OneOf).length) rfl rfl) ?_
   refine jf (.d (.k4 (.k4 (.k4 (.i 88 (vb (decide (v20 < (((ix a0 v15).OneOf).length)))) .n))))) ?_
   refine q1 ?_
   refine tc h (fun c10 h => ?_) (fun c10 h => ?_)
   ·refine q2 ?_
    refine q7 ?_
    refine sj ?_
    obtain ⟨c11, h⟩ := ck h
    refine jo 89 (.iaddr 1 85 87) (ok_iaddr_m (j := v20) rfl rfl rfl c11) ?_
    refine jo 90 (.load false 1 89) (ok_load_fm (v := eS 1 vt (ix ((ix a0 v15).OneOf) v20)) rfl c11 rfl) ?_
    refine jk 1 (.d2 (.k4 (.k4 (.k4 (.i 22 (eS 1 vt (ix ((ix a0 v15).OneOf) v20)) .n))))) ?_
    refine q6 ?_
    refine rk 3 (.k4 (.k4 (.d (.k3 (.i 91 (.own 5 0 v19.length) (.i 92 (eS 6 eTask a0) (.i 93 (eS 1 vt (ix ((ix a0 v15).OneOf) v20)) .n))))))) ?_
    obtain ⟨y21, hy21, h⟩ := bs h
    refine jc 94 [92, 93] (restore_list_bits_ok n a0 (ix ((ix a0 v15).OneOf) v20) y21 hy21) ?_
    refine rko 1 (.d (.k4 (.k4 (.k4 (.i 95 (.own 6 0 1) .n))))) [some (.row 3 [.agg [.own 2 0 v16.length, .own 3 0 v17.length, .own 1 0 v8.length]]), some (.row 1 (List.map vi v8)), some (.row 1 (List.map (vk .u64) v16)), some (.row 1 (List.map (eS 1 (vk .u64)) v17)), some (.row 6 [.agg [vt ((ix a0 v15).Name), vi ((ix a0 v15).Cents), vi ((ix a0 v15).Hours), eS 1 vt ((ix a0 v15).Needs), eS 1 (eS 1 vt) ((ix a0 v15).OneOf), eS 2 ePartCount ((ix a0 v15).Parts)]]), some (.row 1 (List.map (vk .u64) v19)), some (.row 1 [vk .u64 y21])] ?_
    obtain ⟨c12, h⟩ := ck h
    refine jx 96 (.app 1 8 91 95) _ (ok_app_own (l := v19) (l2 := ([y21] : List Int)) (e := (vk .u64)) (u := .own 6 0 1) rfl rfl rfl rfl rfl c12) rfl rfl ?_
    refine jk 1 (.d (.k4 (.k4 (.k3 (.i 20 (.own 7 0 ((v19 ++ ([y21] : List Int)).length)) .n))))) ?_
    refine q6 ?_
    obtain ⟨c13, h⟩ := ck h
    refine jo 97 (.bin .add false 87 (ki 1)) (r_addn (i := v20) (j := 1) rfl rfl c13) ?_
    refine jk 1 (.d (.k4 (.k4 (.k2 (.d (.k (.i 87 (vi ((v20 + 1 : Nat) : Int)) .n))))))) ?_
    exact Vs.intro (sc [0, 1, 2, 3, 4, 7] (by decide) (by kernel_rfl) (.cons rfl (obRen_row vi_frz rfl (obRen_row (vk_frz .u64) rfl (obRen_row (eS_frz 1 (vk .u64)) rfl (.cons rfl (obRen_row (vk_frz .u64) rfl .nil)))))) rfl rfl) ⟨((v19 ++ ([y21] : List Int)), v20 + 1), rfl, h⟩
   refine q5 ?_
   exact Vs.intro sy ⟨v19, rfl, h⟩
  refine q5 ?_
  exact Vs.intro sy ⟨(v17, v16), rfl, h⟩
 intro k1 h
 refine sj ?_
 refine rk 1 (.k4 (.k (.i 50 (eS 6 eTask a0) .n))) ?_
 refine jo 51 (.len 0 50) (ok_len_m rfl) ?_
 refine jk 1 (.d (.k4 (.k2 (.i 51 (vi (a0.length : Int)) (.i 52 (vi 0) .n))))) ?_
 refine q4 ?_
 refine TriE.sees (S' := ⟨[(0, eS 6 eTask a0), (1, eS 3 eStocked a1), (2, eS 1 vt a2), (11, eS 6 eTask a0), (13, .ptr 0 0 0), (50, eS 6 eTask a0), (51, vi (a0.length : Int)), (52, vi 0)], [some (.row 3 [.agg [.emp, .emp, .own 1 0 ([] : List Int).length]]), some (.row 1 (List.map vi ([] : List Int)))]⟩) (Sees.trans (Sees.co (fr' := [(0, eS 6 eTask a0), (1, eS 3 eStocked a1), (2, eS 1 vt a2), (11, eS 6 eTask a0), (13, .ptr 0 0 0), (50, eS 6 eTask a0), (51, vi (a0.length : Int)), (52, vi 0)]) (ob' := [some (.row 3 [.agg [.emp, .emp, .own 1 0 0]])]) (.cons .same (.cons .same (.cons .same (.cons .same (.cons .same (.cons .same (.cons .same (.cons .same .nil)))))))) (.cell (.cons .same (.cons .same (.cons .own .nil))) rfl .nil) 1) sy) ?_
 refine TriE.loopN h (fun (t : Nat × (List Int)) => match t with | (v5, v6) => St.mk [(0, eS 6 eTask a0), (1, eS 3 eStocked a1), (2, eS 1 vt a2), (11, eS 6 eTask a0), (13, .ptr 0 0 0), (50, eS 6 eTask a0), (51, vi (a0.length : Int)), (52, vi v5)] [some (.row 3 [.agg [.emp, .emp, .own 1 0 v6.length]]), some (.row 1 (List.map vi v6))]) rfl ?_
 clear h
 rintro back ⟨v5, v6⟩ h
 dsimp only [restore_Cheapest_L1] at h
 refine sj ?_
 refine jo 53 (.bin .lss false 52 51) (n_lss (i := v5) (j := a0.length) rfl rfl) ?_
 refine jf (.d (.k4 (.k4 (.i 53 (vb (decide (v5 < a0.length))) .n)))) ?_
 refine q1 ?_
 refine tc h (fun c4 h => ?_) (fun c4 h => ?_)
 ·refine q2 ?_
  refine q7 ?_
  refine sj ?_
  refine jo 54 (.iaddr 6 50 52) (ok_iaddr_m (j := v5) rfl rfl rfl c4) ?_
  refine jo 55 (.load true 6 54) (ok_load_fm (v := .agg [vt ((ix a0 v5).Name), vi ((ix a0 v5).Cents), vi ((ix a0 v5).Hours), eS 1 vt ((ix a0 v5).Needs), eS 1 (eS 1 vt) ((ix a0 v5).OneOf), eS 2 ePartCount ((ix a0 v5).Parts)]) rfl c4 rfl) ?_
  refine jko 2 (.d2 (.k4 (.k4 (.i 15 (.ptr 2 0 0) .n)))) [some (.row 3 [.agg [.emp, .emp, .own 1 0 v6.length]]), some (.row 1 (List.map vi v6)), some (.row 6 [.agg [vt ((ix a0 v5).Name), vi ((ix a0 v5).Cents), vi ((ix a0 v5).Hours), eS 1 vt ((ix a0 v5).Needs), eS 1 (eS 1 vt) ((ix a0 v5).OneOf), eS 2 ePartCount ((ix a0 v5).Parts)]])] ?_
  refine sj ?_
  refine rk 2 (.k4 (.k4 (.i 57 (.agg [vt ((ix a0 v5).Name), vi ((ix a0 v5).Cents), vi ((ix a0 v5).Hours), eS 1 vt ((ix a0 v5).Needs), eS 1 (eS 1 vt) ((ix a0 v5).OneOf), eS 2 ePartCount ((ix a0 v5).Parts)]) (.i 58 (eS 3 eStocked a1) .n)))) ?_
  obtain ⟨y7, hy7, h⟩ := bs h
  refine jc 59 [57, 58] (restore_costOf_ok n (ix a0 v5) a1 y7 hy7) ?_
  refine jk 5 (.d (.k4 (.k4 (.i 16 (vi y7.1) (.i 17 (vb y7.2) .n))))) ?_
  refine q1 ?_
  refine sk (.k4 (.k4 (.k (.i 63 (vb (!y7.2)) .n)))) ?_
  refine tc h (fun c5 h => ?_) (fun c5 h => ?_)
  ·refine sk (.i 6 .emp (.i 7 (vi 0) (.i 8 (vi 6) .n))) ?_
   refine q3 ?_
   have h := si h
   subst h
   exact DoneS.ret (S' := ⟨[(6, eS 1 vt ([] : List Str)), (7, vi 0), (8, vi 6)], []⟩) (Sees.trans (Sees.vco (fr' := [(6, eS 1 vt ([] : List Str)), (7, vi 0), (8, vi 6)]) (.cons .sl (.cons .same (.cons .same .nil)))) (sc [] (by decide) (by kernel_rfl) ObRen.nil rfl rfl)) rfl rfl
  refine q2 ?_
  refine q6 ?_
  refine rko 7 (.k4 (.k4 (.i 64 (.ptr 0 0 0) (.i 68 (.own 1 0 v6.length) (.i 70 (.own 3 0 1) .n))))) [some (.row 3 [.agg [.emp, .emp, .own 1 0 v6.length]]), some (.row 1 (List.map vi v6)), some (.row 6 [.agg [vt ((ix a0 v5).Name), vi ((ix a0 v5).Cents), vi ((ix a0 v5).Hours), eS 1 vt ((ix a0 v5).Needs), eS 1 (eS 1 vt) ((ix a0 v5).OneOf), eS 2 ePartCount ((ix a0 v5).Parts)]]), some (.row 1 [vi y7.1])] ?_
  obtain ⟨c6, h⟩ := ck h
  refine jx 71 (.app 1 8 68 70) _ (ok_app_own (l := v6) (l2 := ([y7.1] : List Int)) (e := vi) (u := .own 3 0 1) rfl rfl rfl rfl rfl c6) rfl rfl ?_
  refine jko 3 (.d (.k4 (.k4 .n))) [some (.row 3 [.agg [.emp, .emp, .own 4 0 ((v6 ++ ([y7.1] : List Int)).length)]]), none, some (.row 6 [.agg [vt ((ix a0 v5).Name), vi ((ix a0 v5).Cents), vi ((ix a0 v5).Hours), eS 1 vt ((ix a0 v5).Needs), eS 1 (eS 1 vt) ((ix a0 v5).OneOf), eS 2 ePartCount ((ix a0 v5).Parts)]]), some (.row 1 [vi y7.1]), some (.row 1 (List.map vi (v6 ++ ([y7.1] : List Int))))] ?_
  refine q6 ?_
  obtain ⟨c7, h⟩ := ck h
  refine jo 74 (.bin .add false 52 (ki 1)) (r_addn (i := v5) (j := 1) rfl rfl c7) ?_
  refine jk 1 (.d (.k4 (.k3 (.i 52 (vi ((v5 + 1 : Nat) : Int)) .n)))) ?_
  exact Vs.intro (sc [0, 4] (by decide) (by kernel_rfl) (.cons rfl (obRen_row vi_frz rfl .nil)) rfl rfl) ⟨(v5 + 1, (v6 ++ ([y7.1] : List Int))), rfl, h⟩
 refine q5 ?_
 exact Vs.intro sy ⟨v6, rfl, h⟩
theorem agrafferef08_all_2_ok (n : Nat) (a0 : List Str) (a1 : List Str) (r : Bool) (h : agrafferef08_all_2 n a0 a1 = some r) : FnL Tryz.prog 121 [eS 1 vt a0, .own 0 0 a1.length] [some (.row 1 (List.map vt a1))] (vb r) [some (.row 1 (List.map vt a1))] := by
 dsimp only [agrafferef08_all_2] at h
 refine fob [4] Tryz.call121 Tryz.func121 rfl (.cons rfl .nil) ?_
 refine sk .a ?_
 refine TriE.seqK h (fun (_ : Unit) => St.mk [] [some (.row 1 (List.map vt a1))]) ?_ ?_
 ·rintro ⟨⟩ h
  refine sk (.i 4 (vb true) .n) ?_
  refine q3 ?_
  have h := si h
  subst h
  exact DoneS.ret Sees.refl rfl rfl
 intro k1 h
 refine sk (.k2 (.i 5 (vi 0) .n)) ?_
 refine q4 ?_
 refine ts (.k2 (.i 5 (vi 0) .n)) ?_
 refine TriE.loopN h (fun (v2 : Nat) => St.mk [(0, eS 1 vt a0), (1, .own 0 0 a1.length), (5, vi v2)] [some (.row 1 (List.map vt a1))]) rfl ?_
 clear h
 rintro back v2 h
 dsimp only [agrafferef08_all_2_L1] at h
 refine q1 ?_
 refine sj ?_
 refine rk 2 (.k3 (.i 6 (vi v2) (.i 7 (eS 1 vt a0) .n))) ?_
 refine jo 8 (.len 0 7) (ok_len_m rfl) ?_
 refine jo 9 (.bin .lss false 6 8) (n_lss (i := v2) (j := a0.length) rfl rfl) ?_
 refine jf (.d2 (.k3 (.i 9 (vb (decide (v2 < a0.length))) .n))) ?_
 refine tc h (fun c1 h => ?_) (fun c1 h => ?_)
 ·refine q2 ?_
  refine q7 ?_
  refine sj ?_
  refine rk 3 (.k3 (.i 12 (.own 0 0 a1.length) (.i 13 (eS 1 vt a0) (.i 14 (vi v2) .n)))) ?_
  refine jo 15 (.iaddr 1 13 14) (ok_iaddr_m (j := v2) rfl rfl rfl c1) ?_
  refine jo 16 (.load false 1 15) (ok_load_fm (v := vt (ix a0 v2)) rfl c1 rfl) ?_
  obtain ⟨y3, hy3, h⟩ := bs h
  refine jco (vb y3) 17 [12, 16] (agraffebase_HasText_2_ok n a1 (ix a0 v2) y3 hy3) [0] rfl (.same (row_ren vt_frz _ _ _) .nil) (.same (row_ren vt_frz _ _ _) .nil) rfl ?_
  refine jk 1 (.d3 (.k3 (.i 18 (vb (!y3)) .n))) ?_
  refine tc h (fun c2 h => ?_) (fun c2 h => ?_)
  ·refine sk (.i 4 (vb false) .n) ?_
   refine q3 ?_
   have h := si h
   subst h
   exact DoneS.ret Sees.refl rfl rfl
  refine q2 ?_
  refine q6 ?_
  refine rk 1 (.k2 (.i 10 (vi v2) .n)) ?_
  obtain ⟨c3, h⟩ := ck h
  refine jo 11 (.bin .add false 10 (ki 1)) (r_addn (i := v2) (j := 1) rfl rfl c3) ?_
  refine jk 1 (.d (.k2 (.i 5 (vi ((v2 + 1 : Nat) : Int)) .n))) ?_
  exact Vs.intro sy ⟨(v2 + 1), rfl, h⟩
 refine q5 ?_
 exact Vs.intro sy ⟨(), rfl, h⟩
theorem agrafferef08_some_2_ok (n : Nat) (a0 : List Str) (a1 : List Str) (r : Bool) (h : agrafferef08_some_2 n a0 a1 = some r) : FnL Tryz.prog 122 [eS 1 vt a0, .own 0 0 a1.length] [some (.row 1 (List.map vt a1))] (vb r) [some (.row 1 (List.map vt a1))] := by
 dsimp only [agrafferef08_some_2] at h
 refine fob [4] Tryz.call122 Tryz.func122 rfl (.cons rfl .nil) ?_
 refine sk .a ?_
 refine TriE.seqK h (fun (_ : Unit) => St.mk [] [some (.row 1 (List.map vt a1))]) ?_ ?_
 ·rintro ⟨⟩ h
  refine sk (.i 4 (vb false) .n) ?_
  refine q3 ?_
  have h := si h
  subst h
  exact DoneS.ret Sees.refl rfl rfl
 intro k1 h
 refine sk (.k2 (.i 5 (vi 0) .n)) ?_
 refine q4 ?_
 refine ts (.k2 (.i 5 (vi 0) .n)) ?_
 refine TriE.loopN h (fun (v2 : Nat) => St.mk [(0, eS 1 vt a0), (1, .own 0 0 a1.length), (5, vi v2)] [some (.row 1 (List.map vt a1))]) rfl ?_
 clear h
 rintro back v2 h
 dsimp only [agrafferef08_some_2_L1] at h
 refine q1 ?_
 refine sj ?_
 refine rk 2 (.k3 (.i 6 (vi v2) (.i 7 (eS 1 vt a0) .n))) ?_
 refine jo 8 (.len 0 7) (ok_len_m rfl) ?_
 refine jo 9 (.bin .lss false 6 8) (n_lss (i := v2) (j := a0.length) rfl rfl) ?_
 refine jf (.d2 (.k3 (.i 9 (vb (decide (v2 < a0.length))) .n))) ?_
 refine tc h (fun c1 h => ?_) (fun c1 h => ?_)
 ·refine q2 ?_
  refine q7 ?_
  refine sj ?_
  refine rk 3 (.k3 (.i 12 (.own 0 0 a1.length) (.i 13 (eS 1 vt a0) (.i 14 (vi v2) .n)))) ?_
  refine jo 15 (.iaddr 1 13 14) (ok_iaddr_m (j := v2) rfl rfl rfl c1) ?_
  refine jo 16 (.load false 1 15) (ok_load_fm (v := vt (ix a0 v2)) rfl c1 rfl) ?_
  obtain ⟨y3, hy3, h⟩ := bs h
  refine jco (vb y3) 17 [12, 16] (agraffebase_HasText_2_ok n a1 (ix a0 v2) y3 hy3) [0] rfl (.same (row_ren vt_frz _ _ _) .nil) (.same (row_ren vt_frz _ _ _) .nil) rfl ?_
  refine jf (.d3 (.k3 (.i 17 (vb y3) .n))) ?_
  refine tc h (fun c2 h => ?_) (fun c2 h => ?_)
  ·refine sk (.i 4 (vb true) .n) ?_
   refine q3 ?_
   have h := si h
   subst h
   exact DoneS.ret Sees.refl rfl rfl
  refine q2 ?_
  refine q6 ?_
  refine rk 1 (.k2 (.i 10 (vi v2) .n)) ?_
  obtain ⟨c3, h⟩ := ck h
  refine jo 11 (.bin .add false 10 (ki 1)) (r_addn (i := v2) (j := 1) rfl rfl c3) ?_
  refine jk 1 (.d (.k2 (.i 5 (vi ((v2 + 1 : Nat) : Int)) .n))) ?_
  exact Vs.intro sy ⟨(v2 + 1), rfl, h⟩
 refine q5 ?_
 exact Vs.intro sy ⟨(), rfl, h⟩
set_option maxHeartbeats 1000000 in
theorem agrafferef08_Closure_2_ok (n : Nat) (a0 : List Task) (a1 : List Str) (a2 : List Str) (r : Int) (h : agrafferef08_Closure_2 n a0 a1 a2 = some r) : FnL Tryz.prog 56 [eS 6 eTask a0, eS 1 vt a1, .own 0 0 a2.length] [some (.row 1 (List.map vt a2))] (vi r) [some (.row 1 (List.map vt a2))] := by
 dsimp only [agrafferef08_Closure_2] at h
 refine fob [6] Tryz.call56 Tryz.func56 rfl (.cons rfl .nil) ?_
 refine sk .a ?_
 refine q1 ?_
 refine sj ?_
 refine rk 2 (.k (.d (.k (.i 11 (eS 1 vt a1) (.i 12 (.own 0 0 a2.length) .n))))) ?_
 obtain ⟨y1, hy1, h⟩ := bs h
 refine jco (vb y1) 13 [11, 12] (agrafferef08_all_2_ok n a1 a2 y1 hy1) [0] rfl (.same (row_ren vt_frz _ _ _) .nil) (.same (row_ren vt_frz _ _ _) .nil) rfl ?_
 refine jk 1 (.d (.k2 (.i 14 (vb (!y1)) .n))) ?_
 refine tc h (fun c1 h => ?_) (fun c1 h => ?_)
 ·refine sk (.i 6 (vi 14) .n) ?_
  refine q3 ?_
  have h := si h
  subst h
  exact DoneS.ret Sees.refl rfl rfl
 refine q2 ?_
 refine TriE.seqK h (fun (_ : Unit) => St.mk [(0, eS 6 eTask a0), (2, .own 0 0 a2.length)] [some (.row 1 (List.map vt a2))]) ?_ ?_
 ·rintro ⟨⟩ h
  refine TriE.seqK h (fun (_ : Unit) => St.mk [] [some (.row 1 (List.map vt a2))]) ?_ ?_
  ·rintro ⟨⟩ h
   refine sk (.i 6 (vi 0) .n) ?_
   refine q3 ?_
   have h := si h
   subst h
   exact DoneS.ret Sees.refl rfl rfl
  intro k3 h
  refine sk (.k2 (.i 8 (vi 0) .n)) ?_
  refine q4 ?_
  refine ts (.k2 (.i 8 (vi 0) .n)) ?_
  refine TriE.loopN h (fun (v11 : Nat) => St.mk [(0, eS 6 eTask a0), (2, .own 0 0 a2.length), (8, vi v11)] [some (.row 1 (List.map vt a2))]) rfl ?_
  clear h
  rintro back v11 h
  dsimp only [agrafferef08_Closure_2_L3] at h
  refine q1 ?_
  refine sj ?_
  refine rk 3 (.k3 (.i 34 (vi v11) (.i 36 (vi (a2.length : Int)) .n))) ?_
  refine jo 37 (.bin .lss false 34 36) (n_lss (i := v11) (j := a2.length) rfl rfl) ?_
  refine jf (.d (.k3 (.i 37 (vb (decide (v11 < a2.length))) .n))) ?_
  refine tc h (fun c7 h => ?_) (fun c7 h => ?_)
  ·refine q2 ?_
   refine TriE.seqK h (fun (_ : Unit) => St.mk [(0, eS 6 eTask a0), (2, .own 0 0 a2.length), (8, vi v11)] [some (.row 1 (List.map vt a2))]) ?_ ?_
   ·rintro ⟨⟩ h
    refine q6 ?_
    refine rk 1 (.k2 (.i 38 (vi v11) .n)) ?_
    obtain ⟨c14, h⟩ := ck h
    refine jo 39 (.bin .add false 38 (ki 1)) (r_addn (i := v11) (j := 1) rfl rfl c14) ?_
    refine jk 1 (.d (.k2 (.i 8 (vi ((v11 + 1 : Nat) : Int)) .n))) ?_
    exact Vs.intro sy ⟨(v11 + 1), rfl, h⟩
   intro k2 h
   refine q4 ?_
   refine sj ?_
   refine rk 4 (.k3 (.i 40 (eS 6 eTask a0) (.i 41 (eS 6 eTask a0) (.i 42 (.own 0 0 a2.length) (.i 43 (vi v11) .n))))) ?_
   refine jo 44 (.iaddr 1 42 43) (ok_iaddr_o0 (j := v11) rfl rfl rfl rfl c7) ?_
   refine jo 45 (.load false 1 44) (ok_load_pm (l := a2) (e := vt) (v := vt (ix a2 v11)) rfl rfl c7 rfl) ?_
   obtain ⟨y12, hy12, h⟩ := bs h
   refine jc 46 [41, 45] (agrafferef08_Find_ok n a0 (ix a2 v11) y12 hy12) ?_
   obtain ⟨c8, h⟩ := ck h
   refine jo 47 (.iaddr 6 40 46) (ok_iaddr_m (j := y12.toNat) rfl rfl (inB_to c8) (inB_lt c8)) ?_
   refine rk 1 (.d4 (.k3 (.i 48 (.fptr 6 (List.map eTask a0) y12.toNat 4) .n))) ?_
   obtain ⟨c9, h⟩ := ck h
   refine jo 49 (.load false 1 48) (ok_load_fm (v := eS 1 (eS 1 vt) ((ix a0 y12.toNat).OneOf)) rfl c9 rfl) ?_
   refine jk 1 (.d (.k3 (.i 9 (eS 1 (eS 1 vt) ((ix a0 y12.toNat).OneOf)) .n))) ?_
   refine sk (.k4 (.i 10 (vi 0) .n)) ?_
   refine q4 ?_
   refine ts (.k4 (.i 10 (vi 0) .n)) ?_
   refine TriE.loopN h (fun (v14 : Nat) => St.mk [(0, eS 6 eTask a0), (2, .own 0 0 a2.length), (8, vi v11), (9, eS 1 (eS 1 vt) ((ix a0 y12.toNat).OneOf)), (10, vi v14)] [some (.row 1 (List.map vt a2))]) rfl ?_
   clear h
   rintro back v14 h
   dsimp only [agrafferef08_Closure_2_L2] at h
   refine q1 ?_
   refine sj ?_
   refine rk 2 (.k4 (.k (.i 50 (vi v14) (.i 51 (eS 1 (eS 1 vt) ((ix a0 y12.toNat).OneOf)) .n)))) ?_
   refine jo 52 (.len 0 51) (ok_len_m rfl) ?_
   refine jo 53 (.bin .lss false 50 52) (n_lss (i := v14) (j := ((ix a0 y12.toNat).OneOf).length) rfl rfl) ?_
   refine jf (.d2 (.k4 (.k (.i 53 (vb (decide (v14 < (((ix a0 y12.toNat).OneOf).length)))) .n)))) ?_
   refine tc h (fun c10 h => ?_) (fun c10 h => ?_)
   ·refine q2 ?_
    refine q7 ?_
    refine sj ?_
    refine rk 2 (.k4 (.k (.i 56 (eS 1 (eS 1 vt) ((ix a0 y12.toNat).OneOf)) (.i 57 (vi v14) .n)))) ?_
    obtain ⟨c11, h⟩ := ck h
    refine jo 58 (.iaddr 1 56 57) (ok_iaddr_m (j := v14) rfl rfl rfl c11) ?_
    refine jo 59 (.load false 1 58) (ok_load_fm (v := eS 1 vt (ix ((ix a0 y12.toNat).OneOf) v14)) rfl c11 rfl) ?_
    refine rk 1 (.d2 (.k4 (.k (.i 59 (eS 1 vt (ix ((ix a0 y12.toNat).OneOf) v14)) (.i 60 (.own 0 0 a2.length) .n))))) ?_
    obtain ⟨y15, hy15, h⟩ := bs h
    refine jco (vb y15) 61 [59, 60] (agrafferef08_some_2_ok n (ix ((ix a0 y12.toNat).OneOf) v14) a2 y15 hy15) [0] rfl (.same (row_ren vt_frz _ _ _) .nil) (.same (row_ren vt_frz _ _ _) .nil) rfl ?_
    refine jk 1 (.d (.k4 (.k (.i 62 (vb (!y15)) .n)))) ?_
    refine tc h (fun c12 h => ?_) (fun c12 h => ?_)
    ·refine sk (.i 6 (vi 12) .n) ?_
     refine q3 ?_
     have h := si h
     subst h
     exact DoneS.ret Sees.refl rfl rfl
    refine q2 ?_
    refine q6 ?_
    refine rk 1 (.k4 (.i 54 (vi v14) .n)) ?_
    obtain ⟨c13, h⟩ := ck h
    refine jo 55 (.bin .add false 54 (ki 1)) (r_addn (i := v14) (j := 1) rfl rfl c13) ?_
    refine jk 1 (.d (.k4 (.i 10 (vi ((v14 + 1 : Nat) : Int)) .n))) ?_
    exact Vs.intro sy ⟨(v14 + 1), rfl, h⟩
   refine q5 ?_
   exact Vs.intro sy ⟨(), rfl, h⟩
  refine q5 ?_
  exact Vs.intro sy ⟨(), rfl, h⟩
 intro k1 h
 refine sk (.k2 (.i 7 (vi 0) .n)) ?_
 refine q4 ?_
 refine ts (.k2 (.i 7 (vi 0) .n)) ?_
 refine TriE.loopN h (fun (v4 : Nat) => St.mk [(0, eS 6 eTask a0), (2, .own 0 0 a2.length), (7, vi v4)] [some (.row 1 (List.map vt a2))]) rfl ?_
 clear h
 rintro back v4 h
 dsimp only [agrafferef08_Closure_2_L1] at h
 refine q1 ?_
 refine sj ?_
 refine rk 3 (.k3 (.i 15 (vi v4) (.i 17 (vi (a2.length : Int)) .n))) ?_
 refine jo 18 (.bin .lss false 15 17) (n_lss (i := v4) (j := a2.length) rfl rfl) ?_
 refine jf (.d (.k3 (.i 18 (vb (decide (v4 < a2.length))) .n))) ?_
 refine tc h (fun c2 h => ?_) (fun c2 h => ?_)
 ·refine q2 ?_
  refine q7 ?_
  refine sj ?_
  refine rk 4 (.k3 (.i 21 (eS 6 eTask a0) (.i 22 (eS 6 eTask a0) (.i 23 (.own 0 0 a2.length) (.i 24 (vi v4) .n))))) ?_
  refine jo 25 (.iaddr 1 23 24) (ok_iaddr_o0 (j := v4) rfl rfl rfl rfl c2) ?_
  refine jo 26 (.load false 1 25) (ok_load_pm (l := a2) (e := vt) (v := vt (ix a2 v4)) rfl rfl c2 rfl) ?_
  obtain ⟨y5, hy5, h⟩ := bs h
  refine jc 27 [22, 26] (agrafferef08_Find_ok n a0 (ix a2 v4) y5 hy5) ?_
  obtain ⟨c3, h⟩ := ck h
  refine jo 28 (.iaddr 6 21 27) (ok_iaddr_m (j := y5.toNat) rfl rfl (inB_to c3) (inB_lt c3)) ?_
  refine rk 1 (.d4 (.k3 (.i 29 (.fptr 6 (List.map eTask a0) y5.toNat 3) .n))) ?_
  obtain ⟨c4, h⟩ := ck h
  refine jo 30 (.load false 1 29) (ok_load_fm (v := eS 1 vt ((ix a0 y5.toNat).Needs)) rfl c4 rfl) ?_
  refine rk 1 (.d (.k3 (.i 30 (eS 1 vt ((ix a0 y5.toNat).Needs)) (.i 31 (.own 0 0 a2.length) .n)))) ?_
  obtain ⟨y6, hy6, h⟩ := bs h
  refine jco (vb y6) 32 [30, 31] (agrafferef08_all_2_ok n ((ix a0 y5.toNat).Needs) a2 y6 hy6) [0] rfl (.same (row_ren vt_frz _ _ _) .nil) (.same (row_ren vt_frz _ _ _) .nil) rfl ?_
  refine jk 1 (.d (.k3 (.i 33 (vb (!y6)) .n))) ?_
  refine tc h (fun c5 h => ?_) (fun c5 h => ?_)
  ·refine sk (.i 6 (vi 14) .n) ?_
   refine q3 ?_
   have h := si h
   subst h
   exact DoneS.ret Sees.refl rfl rfl
  refine q2 ?_
  refine q6 ?_
  refine rk 1 (.k2 (.i 19 (vi v4) .n)) ?_
  obtain ⟨c6, h⟩ := ck h
  refine jo 20 (.bin .add false 19 (ki 1)) (r_addn (i := v4) (j := 1) rfl rfl c6) ?_
  refine jk 1 (.d (.k2 (.i 7 (vi ((v4 + 1 : Nat) : Int)) .n))) ?_
  exact Vs.intro sy ⟨(v4 + 1), rfl, h⟩
 refine q5 ?_
 exact Vs.intro sy ⟨(), rfl, h⟩
set_option maxHeartbeats 1000000 in
theorem agrafferef08_Cost_2_ok (n : Nat) (a0 : List Task) (a1 : List Stocked) (a2 : List Str) (r : Int × Bool) (h : agrafferef08_Cost_2 n a0 a1 a2 = some r) : FnL Tryz.prog 71 [eS 6 eTask a0, eS 3 eStocked a1, .own 0 0 a2.length] [some (.row 1 (List.map vt a2))] (.tup [vi r.1, vb r.2]) [some (.row 1 (List.map vt a2))] := by
 dsimp only [agrafferef08_Cost_2] at h
 refine fob [6, 7] Tryz.call71 Tryz.func71 rfl (.cons rfl .nil) ?_
 refine sk .a ?_
 refine sk (.k3 (.i 8 (vi 0) .n)) ?_
 refine TriE.seqK h (fun (v15 : Int) => St.mk [(8, vi v15)] [some (.row 1 (List.map vt a2))]) ?_ ?_
 ·rintro v15 h
  refine sk (.i 6 (vi v15) (.i 7 (vb true) .n)) ?_
  refine q3 ?_
  have h := si h
  subst h
  exact DoneS.ret Sees.refl rfl rfl
 intro k2 h
 refine sk (.k4 (.i 9 (vi 0) .n)) ?_
 refine q4 ?_
 refine ts (.k4 (.i 9 (vi 0) .n)) ?_
 refine TriE.loopN h (fun (t : Int × Nat) => match t with | (v7, v8) => St.mk [(0, eS 6 eTask a0), (1, eS 3 eStocked a1), (2, .own 0 0 a2.length), (8, vi v7), (9, vi v8)] [some (.row 1 (List.map vt a2))]) rfl ?_
 clear h
 rintro back ⟨v7, v8⟩ h
 dsimp only [agrafferef08_Cost_2_L2] at h
 refine q1 ?_
 refine sj ?_
 refine rk 3 (.k4 (.k (.i 13 (vi v8) (.i 15 (vi (a2.length : Int)) .n)))) ?_
 refine jo 16 (.bin .lss false 13 15) (n_lss (i := v8) (j := a2.length) rfl rfl) ?_
 refine jf (.d (.k4 (.k (.i 16 (vb (decide (v8 < a2.length))) .n)))) ?_
 refine tc h (fun c1 h => ?_) (fun c1 h => ?_)
 ·refine q2 ?_
  refine TriE.seqK h (fun (v14 : Int) => St.mk [(0, eS 6 eTask a0), (1, eS 3 eStocked a1), (2, .own 0 0 a2.length), (9, vi v8), (8, vi v14)] [some (.row 1 (List.map vt a2))]) ?_ ?_
  ·rintro v14 h
   refine q6 ?_
   refine rk 1 (.k3 (.d (.k (.i 17 (vi v8) .n)))) ?_
   obtain ⟨c13, h⟩ := ck h
   refine jo 18 (.bin .add false 17 (ki 1)) (r_addn (i := v8) (j := 1) rfl rfl c13) ?_
   refine jk 1 (.d (.k4 (.i 9 (vi ((v8 + 1 : Nat) : Int)) .n))) ?_
   exact Vs.intro sy ⟨(v14, v8 + 1), rfl, h⟩
  intro k1 h
  refine q4 ?_
  refine sj ?_
  refine rk 4 (.k4 (.k (.i 19 (eS 6 eTask a0) (.i 20 (eS 6 eTask a0) (.i 21 (.own 0 0 a2.length) (.i 22 (vi v8) .n)))))) ?_
  refine jo 23 (.iaddr 1 21 22) (ok_iaddr_o0 (j := v8) rfl rfl rfl rfl c1) ?_
  refine jo 24 (.load false 1 23) (ok_load_pm (l := a2) (e := vt) (v := vt (ix a2 v8)) rfl rfl c1 rfl) ?_
  obtain ⟨y9, hy9, h⟩ := bs h
  refine jc 25 [20, 24] (agrafferef08_Find_ok n a0 (ix a2 v8) y9 hy9) ?_
  obtain ⟨c2, h⟩ := ck h
  refine jo 26 (.iaddr 6 19 25) (ok_iaddr_m (j := y9.toNat) rfl rfl (inB_to c2) (inB_lt c2)) ?_
  obtain ⟨c3, h⟩ := ck h
  refine jo 27 (.load true 6 26) (ok_load_fm (v := .agg [vt ((ix a0 y9.toNat).Name), vi ((ix a0 y9.toNat).Cents), vi ((ix a0 y9.toNat).Hours), eS 1 vt ((ix a0 y9.toNat).Needs), eS 1 (eS 1 vt) ((ix a0 y9.toNat).OneOf), eS 2 ePartCount ((ix a0 y9.toNat).Parts)]) rfl c3 rfl) ?_
  refine jko 2 (.d4 (.d (.k4 (.k (.i 10 (.ptr 1 0 0) .n))))) [some (.row 1 (List.map vt a2)), some (.row 6 [.agg [vt ((ix a0 y9.toNat).Name), vi ((ix a0 y9.toNat).Cents), vi ((ix a0 y9.toNat).Hours), eS 1 vt ((ix a0 y9.toNat).Needs), eS 1 (eS 1 vt) ((ix a0 y9.toNat).OneOf), eS 2 ePartCount ((ix a0 y9.toNat).Parts)]])] ?_
  refine sj ?_
  refine rk 3 (.k3 (.d (.k2 (.i 28 (vi v7) (.i 30 (vi ((ix a0 y9.toNat).Cents)) .n))))) ?_
  obtain ⟨c4, h⟩ := ck h
  refine jo 31 (.bin .add false 28 30) (r_add rfl rfl c4) ?_
  refine jk 1 (.d (.k4 (.k (.i 8 (vi (v7 + ((ix a0 y9.toNat).Cents))) .n)))) ?_
  refine sk (.k4 (.k2 (.i 11 (vi 0) .n))) ?_
  refine q4 ?_
  refine ts (.k4 (.k2 (.i 11 (vi 0) .n))) ?_
  refine TriE.loopN h (fun (t : Int × Nat) => match t with | (v11, v12) => St.mk [(0, eS 6 eTask a0), (1, eS 3 eStocked a1), (2, .own 0 0 a2.length), (9, vi v8), (10, .ptr 1 0 0), (8, vi v11), (11, vi v12)] [some (.row 1 (List.map vt a2)), some (.row 6 [.agg [vt ((ix a0 y9.toNat).Name), vi ((ix a0 y9.toNat).Cents), vi ((ix a0 y9.toNat).Hours), eS 1 vt ((ix a0 y9.toNat).Needs), eS 1 (eS 1 vt) ((ix a0 y9.toNat).OneOf), eS 2 ePartCount ((ix a0 y9.toNat).Parts)]])]) rfl ?_
  clear h
  rintro back ⟨v11, v12⟩ h
  dsimp only [agrafferef08_Cost_2_L1] at h
  refine q1 ?_
  refine sj ?_
  refine rk 3 (.k4 (.k3 (.i 32 (vi v12) (.i 34 (eS 2 ePartCount ((ix a0 y9.toNat).Parts)) .n)))) ?_
  refine jo 35 (.len 0 34) (ok_len_m rfl) ?_
  refine jo 36 (.bin .lss false 32 35) (n_lss (i := v12) (j := ((ix a0 y9.toNat).Parts).length) rfl rfl) ?_
  refine jf (.d2 (.k4 (.k3 (.i 36 (vb (decide (v12 < (((ix a0 y9.toNat).Parts).length)))) .n)))) ?_
  refine tc h (fun c5 h => ?_) (fun c5 h => ?_)
  ·refine q2 ?_
   refine q7 ?_
   refine sj ?_
   refine rk 4 (.k4 (.k3 (.i 39 (eS 3 eStocked a1) (.i 41 (eS 2 ePartCount ((ix a0 y9.toNat).Parts)) (.i 42 (vi v12) .n))))) ?_
   obtain ⟨c6, h⟩ := ck h
   refine jo 43 (.iaddr 2 41 42) (ok_iaddr_m (j := v12) rfl rfl rfl c6) ?_
   refine rk 1 (.d (.k4 (.k4 (.i 44 (.fptr 2 (List.map ePartCount ((ix a0 y9.toNat).Parts)) v12 0) .n)))) ?_
   refine jo 45 (.load false 1 44) (ok_load_fm (v := vt ((ix ((ix a0 y9.toNat).Parts) v12).Part)) rfl c6 rfl) ?_
   obtain ⟨y13, hy13, h⟩ := bs h
   refine jc 46 [39, 45] (agrafferef08_FindStock_ok n a1 ((ix ((ix a0 y9.toNat).Parts) v12).Part) y13 hy13) ?_
   refine jk 1 (.d2 (.k4 (.k3 (.i 12 (vi y13) .n)))) ?_
   refine q1 ?_
   refine sk (.k4 (.k4 (.i 48 (vb (decide (y13 < (0 : Int)))) .n))) ?_
   refine tc h (fun c7 h => ?_) (fun c7 h => ?_)
   ·refine sk (.i 6 (vi 0) (.i 7 (vb false) .n)) ?_
    refine q3 ?_
    have h := si h
    subst h
    exact DoneS.ret (S' := ⟨[(6, vi 0), (7, vb false)], [some (.row 1 (List.map vt a2))]⟩) (sc [0] (by decide) (by kernel_rfl) (obRen_row vt_frz rfl .nil) rfl rfl) rfl rfl
   refine q2 ?_
   refine ts (.k4 (.k4 .n)) ?_
   refine TriE.draw (by kernel_rfl) ?_
   refine dk 4 (.i 52 (vi v12) (.i 51 (eS 2 ePartCount ((ix a0 y9.toNat).Parts)) (.i 50 (.ptr 1 0 5) (.i 49 (vi v11) .a)))) ?_
   refine dp 53 (.iaddr 2 51 52) (ok_iaddr_m (j := v12) rfl rfl rfl c6) ?_
   refine dk 1 (.i 54 (.fptr 2 (List.map ePartCount ((ix a0 y9.toNat).Parts)) v12 1) .a) ?_
   refine dp 55 (.load false 1 54) (ok_load_fm (v := vi ((ix ((ix a0 y9.toNat).Parts) v12).Count)) rfl c6 rfl) ?_
   refine dk 2 (.i 57 (vi y13) (.i 56 (eS 3 eStocked a1) .a)) ?_
   obtain ⟨c8, h⟩ := ck h
   refine dp 58 (.iaddr 3 56 57) (ok_iaddr_m (j := y13.toNat) rfl rfl (inB_to c8) (inB_lt c8)) ?_
   refine dk 1 (.i 59 (.fptr 3 (List.map eStocked a1) y13.toNat 1) .a) ?_
   obtain ⟨c9, h⟩ := ck h
   refine dp 60 (.load false 1 59) (ok_load_fm (v := vi ((ix a1 y13.toNat).Cents)) rfl c9 rfl) ?_
   obtain ⟨c10, h⟩ := ck h
   refine dp 61 (.bin .mul false 55 60) (r_mul rfl rfl c10) ?_
   obtain ⟨c11, h⟩ := ck h
   refine dp 62 (.bin .add false 49 61) (r_add rfl rfl c11) ?_
   refine dk 1 (.i 8 (vi (v11 + (((ix ((ix a0 y9.toNat).Parts) v12).Count) * ((ix a1 y13.toNat).Cents)))) .a) ?_
   refine dfi (ob' := [some (.row 1 (List.map vt a2)), some (.row 6 [.agg [vt ((ix a0 y9.toNat).Name), vi ((ix a0 y9.toNat).Cents), vi ((ix a0 y9.toNat).Hours), eS 1 vt ((ix a0 y9.toNat).Needs), eS 1 (eS 1 vt) ((ix a0 y9.toNat).OneOf), eS 2 ePartCount ((ix a0 y9.toNat).Parts)]])]) (.d4 (.d4 (.d4 (.d3 (.k4 (.k (.d (.k (.i 8 (vi (v11 + (((ix ((ix a0 y9.toNat).Parts) v12).Count) * ((ix a1 y13.toNat).Cents)))) .n))))))))) [0, 1] (obRen_row vt_frz rfl (.cons rfl .nil)) ?_
   refine q6 ?_
   refine rk 1 (.k4 (.k (.d (.k (.i 37 (vi v12) .n))))) ?_
   obtain ⟨c12, h⟩ := ck h
   refine jo 38 (.bin .add false 37 (ki 1)) (r_addn (i := v12) (j := 1) rfl rfl c12) ?_
   refine jk 1 (.d (.k4 (.k2 (.i 11 (vi ((v12 + 1 : Nat) : Int)) .n)))) ?_
   exact Vs.intro sy ⟨(v11 + (((ix ((ix a0 y9.toNat).Parts) v12).Count) * ((ix a1 y13.toNat).Cents)), v12 + 1), rfl, h⟩
  refine q5 ?_
  exact Vs.intro (sc [0] (by decide) (by kernel_rfl) (obRen_row vt_frz rfl .nil) rfl rfl) ⟨v11, rfl, h⟩
 refine q5 ?_
 exact Vs.intro sy ⟨v7, rfl, h⟩
theorem agrafferef08_less_2_ok (n : Nat) (a0 : List Str) (a1 : List Str) (r : Bool) (h : agrafferef08_less_2 n a0 a1 = some r) : FnL Tryz.prog 106 [.own 0 0 a0.length, .own 1 0 a1.length] [some (.row 1 (List.map vt a0)), some (.row 1 (List.map vt a1))] (vb r) [some (.row 1 (List.map vt a0)), some (.row 1 (List.map vt a1))] := by
 dsimp only [agrafferef08_less_2] at h
 refine fob [4] Tryz.call106 Tryz.func106 rfl (.cons rfl (.cons rfl .nil)) ?_
 refine sk .a ?_
 refine TriE.seqK h (fun (_ : Unit) => St.mk [(0, .own 0 0 a0.length), (1, .own 1 0 a1.length)] [some (.row 1 (List.map vt a0)), some (.row 1 (List.map vt a1))]) ?_ ?_
 ·rintro ⟨⟩ h
  refine sj ?_
  refine rk 4 (.i 37 (vi (a0.length : Int)) (.i 39 (vi (a1.length : Int)) .n)) ?_
  refine jo 40 (.bin .lss false 37 39) (n_lss (i := a0.length) (j := a1.length) rfl rfl) ?_
  refine jk 1 (.i 4 (vb (decide (a0.length < a1.length))) .n) ?_
  refine q3 ?_
  have h := si h
  subst h
  exact DoneS.ret Sees.refl rfl rfl
 intro k1 h
 refine sk (.k2 (.i 5 (vi 0) .n)) ?_
 refine q4 ?_
 refine ts (.k2 (.i 5 (vi 0) .n)) ?_
 refine TriE.loopN h (fun (v1 : Nat) => St.mk [(0, .own 0 0 a0.length), (1, .own 1 0 a1.length), (5, vi v1)] [some (.row 1 (List.map vt a0)), some (.row 1 (List.map vt a1))]) rfl ?_
 clear h
 rintro back v1 h
 dsimp only [agrafferef08_less_2_L1] at h
 refine q1 ?_
 refine sj ?_
 refine rk 3 (.k3 (.i 6 (vi v1) (.i 8 (vi (a0.length : Int)) .n))) ?_
 refine jo 9 (.bin .lss false 6 8) (n_lss (i := v1) (j := a0.length) rfl rfl) ?_
 refine rk 1 (.d (.k3 (.i 10 (vb (decide (v1 < a0.length))) .n))) ?_
 refine gj (vi v1) 11 (.mov 5) 10 true rfl ?_
 refine gj (.own 1 0 a1.length) 12 (.mov 1) 10 true rfl ?_
 refine gk (vi (a1.length : Int)) 13 (.len 0 12) 10 true rfl (fun hg => (.cons hg .nil)) ?_
 refine gv 14 (.bin .lss false 11 13) 10 true rfl (fun hg => (n_lss (i := v1) (j := a1.length) rfl rfl)) (fun hg => (.cons hg (.cons hg .nil))) ?_
 refine pa 15 10 14 rfl rfl ?_
 refine jf (.d4 (.d (.k3 (.i 15 (vb ((decide (v1 < a0.length)) && (decide (v1 < a1.length)))) .n)))) ?_
 refine tc h (fun c1 h => ?_) (fun c1 h => ?_)
 ·refine q2 ?_
  refine q7 ?_
  refine q1 ?_
  refine ts (.k3 .n) ?_
  refine TriE.draw (by kernel_rfl) ?_
  refine dk 2 (.i 19 (vi v1) (.i 18 (.own 0 0 a0.length) .a)) ?_
  obtain ⟨c2, h⟩ := ck h
  refine dp 20 (.iaddr 1 18 19) (ok_iaddr_o0 (j := v1) rfl rfl rfl rfl c2) ?_
  refine dp 21 (.load false 1 20) (ok_load_pm (l := a0) (e := vt) (v := vt (ix a0 v1)) rfl rfl c2 rfl) ?_
  refine dk 2 (.i 23 (vi v1) (.i 22 (.own 1 0 a1.length) .a)) ?_
  obtain ⟨c3, h⟩ := ck h
  refine dp 24 (.iaddr 1 22 23) (ok_iaddr_o0 (j := v1) rfl rfl rfl rfl c3) ?_
  refine dp 25 (.load false 1 24) (ok_load_pm (l := a1) (e := vt) (v := vt (ix a1 v1)) rfl rfl c3 rfl) ?_
  refine dk 1 (.i 26 (vb (!((ix a0 v1) == (ix a1 v1)))) .a) ?_
  refine dfi (.d4 (.d4 (.d (.k3 (.i 26 (vb (!((ix a0 v1) == (ix a1 v1)))) .n))))) [0, 1] (obRen_row vt_frz rfl (obRen_row vt_frz rfl .nil)) ?_
  refine tc h (fun c4 h => ?_) (fun c4 h => ?_)
  ·refine q1 ?_
   refine ts (.k3 .n) ?_
   refine TriE.draw (by kernel_rfl) ?_
   refine dk 2 (.i 28 (vi v1) (.i 27 (.own 0 0 a0.length) .a)) ?_
   refine dp 29 (.iaddr 1 27 28) (ok_iaddr_o0 (j := v1) rfl rfl rfl rfl c2) ?_
   refine dp 30 (.load false 1 29) (ok_load_pm (l := a0) (e := vt) (v := vt (ix a0 v1)) rfl rfl c2 rfl) ?_
   refine dk 2 (.i 32 (vi v1) (.i 31 (.own 1 0 a1.length) .a)) ?_
   refine dp 33 (.iaddr 1 31 32) (ok_iaddr_o0 (j := v1) rfl rfl rfl rfl c3) ?_
   refine dp 34 (.load false 1 33) (ok_load_pm (l := a1) (e := vt) (v := vt (ix a1 v1)) rfl rfl c3 rfl) ?_
   refine dk 2 (.i 4 (vb (bLt (ix a0 v1) (ix a1 v1))) (.i 35 (vb (bLt (ix a0 v1) (ix a1 v1))) .a)) ?_
   refine dfi (.k .n) [0, 1] (obRen_row vt_frz rfl (obRen_row vt_frz rfl .nil)) ?_
   refine q3 ?_
   have h := si h
   subst h
   exact DoneS.ret Sees.refl rfl rfl
  refine q2 ?_
  refine q6 ?_
  refine rk 1 (.k2 (.i 16 (vi v1) .n)) ?_
  obtain ⟨c5, h⟩ := ck h
  refine jo 17 (.bin .add false 16 (ki 1)) (r_addn (i := v1) (j := 1) rfl rfl c5) ?_
  refine jk 1 (.d (.k2 (.i 5 (vi ((v1 + 1 : Nat) : Int)) .n))) ?_
  exact Vs.intro sy ⟨(v1 + 1), rfl, h⟩
 refine q5 ?_
 exact Vs.intro sy ⟨(), rfl, h⟩
set_option maxHeartbeats 1000000 in
theorem agrafferef08_Cheapest_ok (n : Nat) (a0 : List Task) (a1 : List Stocked) (a2 : List Str) (r : Int × (List Str) × Int) (h : agrafferef08_Cheapest n a0 a1 a2 = some r) : FnL Tryz.prog 37 [eS 6 eTask a0, eS 3 eStocked a1, eS 1 vt a2] [] (.tup [eS 1 vt r.2.1, vi r.2.2, vi r.1]) [] := by
  dsimp only [agrafferef08_Cheapest] at h
  refine FnL.ofS (ts := [6, 7, 8]) Tryz.call37 Tryz.func37 rfl rfl (Nat.le_of_ble_eq_true rfl) (Nat.le_of_ble_eq_true rfl) (fun j h => absurd h (Nat.not_lt_zero j)) ?_
  show TriE _ _ _ _ _ (St.mk [(0, eS 6 eTask a0), (1, eS 3 eStocked a1), (2, eS 1 vt a2)] []) _
  refine TriE.seq ?_
  refine TriE.run [(0, eS 6 eTask a0), (1, eS 3 eStocked a1), (2, eS 1 vt a2)] [] (by kernel_rfl) ?_
  refine TriE.seq ?_
  refine TriE.run [(0, eS 6 eTask a0), (1, eS 3 eStocked a1), (2, eS 1 vt a2), (9, .emp)] [] (by kernel_rfl) ?_
  refine TriE.seqK h (fun (v5 : (List Str)) => St.mk [(0, eS 6 eTask a0), (1, eS 3 eStocked a1), (2, eS 1 vt a2), (9, eS 1 vt v5)] []) ?_ ?_
  · rintro v5 h
    show TriE _ _ _ _ _ (St.mk [(0, eS 6 eTask a0), (1, eS 3 eStocked a1), (2, eS 1 vt a2), (9, eS 1 vt v5)] []) _
    refine TriE.seq ?_
    refine TriE.seq ?_
    refine TriE.regJ ?_
    refine RegJ.run 3 [(0, eS 6 eTask a0), (1, eS 3 eStocked a1), (2, eS 1 vt a2), (9, eS 1 vt v5), (35, eS 6 eTask a0), (36, eS 3 eStocked a1), (37, eS 1 vt v5)] [] (by kernel_rfl) ?_
    obtain ⟨y6, hy6, h⟩ := bind_some h
    refine RegJ.op (Op1.call (y' := .tup [vi y6.1, vb y6.2]) (obx := []) (oby := []) (ob2 := []) _ _ (cz (I0 38 (.call 71 [(.t 35), (.t 36), (.t 37)])) (by kernel_rfl)) rfl (agrafferef08_Cost_ok n a0 a1 v5 y6 hy6) [] (by kernel_rfl) (.cons rfl (.cons rfl (.cons rfl (.cons rfl .nil)))) (by kernel_rfl) (by kernel_rfl) ObsRen.nil (by kernel_rfl) ObsRen.nil (by kernel_rfl)) ?_
    refine jrd 5 [(0, eS 6 eTask a0), (1, eS 3 eStocked a1), (2, eS 1 vt a2), (9, eS 1 vt v5), (12, vb y6.2)] [] (by kernel_rfl) rfl ?_
    refine TriE.seq ?_
    refine TriE.run [(0, eS 6 eTask a0), (1, eS 3 eStocked a1), (2, eS 1 vt a2), (9, eS 1 vt v5), (42, vb (!y6.2))] [] (by kernel_rfl) ?_
    refine TriE.cond (b := !y6.2) rfl (fun c3 => ?_) (fun c3 => ?_)
    · have h := cond_t h c3
      refine TriE.seq ?_
      refine TriE.run [(6, .emp), (7, vi 0), (8, vi 6)] [] (by kernel_rfl) ?_
      refine TriE.ret ?_
      have h := Option.some.inj h
      subst h
      exact DoneS.ret (S' := ⟨[(6, eS 1 vt ([] : List Str)), (7, vi 0), (8, vi 6)], []⟩) (Sees.trans (Sees.vco (fr' := [(6, eS 1 vt ([] : List Str)), (7, vi 0), (8, vi 6)]) (.cons .sl (.cons .same (.cons .same .nil)))) (sl (by kernel_rfl))) rfl rfl
    have h := cond_f h c3
    refine TriE.skip ?_
    refine TriE.seq ?_
    refine TriE.seq ?_
    refine TriE.regJ ?_
    refine RegJ.run 1 [(0, eS 6 eTask a0), (1, eS 3 eStocked a1), (2, eS 1 vt a2), (9, eS 1 vt v5), (43, eS 6 eTask a0)] [] (by kernel_rfl) ?_
    refine jv (vi ((a0.length : Nat) : Int)) (cz (I0 44 (.len 0 (.t 43))) (by kernel_rfl)) (ok_len_m rfl) rfl ?_
    refine jv (vb (decide (14 < a0.length))) (cz (I0 45 (.bin .gtr false (.t 44) (.c (.p (.int .i64 14))))) (by kernel_rfl)) (n_gtr (i := a0.length) (j := 14) rfl rfl) rfl ?_
    refine jd [(0, eS 6 eTask a0), (1, eS 3 eStocked a1), (2, eS 1 vt a2), (9, eS 1 vt v5), (45, vb (decide (14 < a0.length)))] (by kernel_rfl) rfl ?_
    refine TriE.cond (b := decide (14 < a0.length)) rfl (fun c4 => ?_) (fun c4 => ?_)
    · have h := cond_t h c4
      refine TriE.seq ?_
      refine TriE.run [(6, .emp), (7, vi 0), (8, vi 8)] [] (by kernel_rfl) ?_
      refine TriE.ret ?_
      have h := Option.some.inj h
      subst h
      exact DoneS.ret (S' := ⟨[(6, eS 1 vt ([] : List Str)), (7, vi 0), (8, vi 8)], []⟩) (Sees.trans (Sees.vco (fr' := [(6, eS 1 vt ([] : List Str)), (7, vi 0), (8, vi 8)]) (.cons .sl (.cons .same (.cons .same .nil)))) (sl (by kernel_rfl))) rfl rfl
    have h := cond_f h c4
    refine TriE.skip ?_
    refine TriE.seq ?_
    refine TriE.run [(0, eS 6 eTask a0), (1, eS 3 eStocked a1), (2, eS 1 vt a2), (9, eS 1 vt v5), (13, .emp)] [] (by kernel_rfl) ?_
    refine TriE.seq ?_
    refine TriE.run [(0, eS 6 eTask a0), (1, eS 3 eStocked a1), (2, eS 1 vt a2), (9, eS 1 vt v5), (13, .emp), (14, vi 0), (15, vb false)] [] (by kernel_rfl) ?_
    refine TriE.seqK h (fun (t : Int × (List Str)) => match t with | (v33, v34) => St.mk [(13, .own 0 0 v34.length), (14, vi v33)] [some (.row 1 (List.map vt v34))]) ?_ ?_
    · rintro ⟨v33, v34⟩ h
      show TriE _ _ _ _ _ (St.mk [(13, .own 0 0 v34.length), (14, vi v33)] [some (.row 1 (List.map vt v34))]) _
      refine TriE.seq ?_
      refine TriE.run [(6, .own 0 0 v34.length), (7, vi v33), (8, vi 0)] [some (.row 1 (List.map vt v34))] (by kernel_rfl) ?_
      refine TriE.ret ?_
      have h := Option.some.inj h
      subst h
      exact DoneS.ret (S' := ⟨[(6, eS 1 vt v34), (7, vi v33), (8, vi 0)], []⟩) (Sees.trans (Sees.freeze 0 (fr' := [(6, eS 1 vt v34), (7, vi v33), (8, vi 0)]) (ob' := [none]) rfl (frz_row vt_frzE _) (.cons (frz_full rfl) (.cons (.refl _) (.cons (.refl _) .nil))) rfl) (sc [] (by decide) (by kernel_rfl) ObRen.nil rfl rfl)) rfl rfl
    intro k5 h
    refine TriE.seq ?_
    refine TriE.run [(0, eS 6 eTask a0), (1, eS 3 eStocked a1), (2, eS 1 vt a2), (9, eS 1 vt v5), (13, .emp), (14, vi 0), (15, vb false), (16, vi 0)] [] (by kernel_rfl) ?_
    refine TriE.block ?_
    refine TriE.sees (S' := ⟨[(0, eS 6 eTask a0), (1, eS 3 eStocked a1), (2, eS 1 vt a2), (9, eS 1 vt v5), (13, .own 0 0 ([] : List Str).length), (14, vi 0), (15, vb false), (16, vi ((0 : Nat) : Int))], [some (.row 1 (List.map vt ([] : List Str)))]⟩) (Sees.trans (Sees.co (fr' := [(0, eS 6 eTask a0), (1, eS 3 eStocked a1), (2, eS 1 vt a2), (9, eS 1 vt v5), (13, .own 0 0 0), (14, vi 0), (15, vb false), (16, vi 0)]) (ob' := []) (.cons .same (.cons .same (.cons .same (.cons .same (.cons .own (.cons .same (.cons .same (.cons .same .nil)))))))) ObCo.nil 1) (sl (by kernel_rfl))) ?_
    refine TriE.loopN h (fun (t : (List Str) × Int × Bool × Nat) => match t with | (v18, v19, v20, v21) => St.mk [(0, eS 6 eTask a0), (1, eS 3 eStocked a1), (2, eS 1 vt a2), (9, eS 1 vt v5), (13, .own 0 0 v18.length), (14, vi v19), (15, vb v20), (16, vi ((v21 : Nat) : Int))] [some (.row 1 (List.map vt v18))]) rfl ?_
    clear h
    rintro back ⟨v18, v19, v20, v21⟩ h
    dsimp only [agrafferef08_Cheapest_L3] at h
    show TriE _ _ _ _ _ (St.mk [(0, eS 6 eTask a0), (1, eS 3 eStocked a1), (2, eS 1 vt a2), (9, eS 1 vt v5), (13, .own 0 0 v18.length), (14, vi v19), (15, vb v20), (16, vi ((v21 : Nat) : Int))] [some (.row 1 (List.map vt v18))]) _
    refine TriE.seq ?_
    refine TriE.seq ?_
    refine TriE.regJ ?_
    refine RegJ.run 2 [(0, eS 6 eTask a0), (1, eS 3 eStocked a1), (2, eS 1 vt a2), (9, eS 1 vt v5), (13, .own 0 0 v18.length), (14, vi v19), (15, vb v20), (16, vi ((v21 : Nat) : Int)), (46, vi ((v21 : Nat) : Int)), (47, eS 1 vt v5)] [some (.row 1 (List.map vt v18))] (by kernel_rfl) ?_
    refine jv (vi ((v5.length : Nat) : Int)) (cz (I0 48 (.len 0 (.t 47))) (by kernel_rfl)) (ok_len_m rfl) rfl ?_
    obtain ⟨c5, h⟩ := chk_some h
    refine jv (vi (IntKind.i64.wrap (1 * 2 ^ (min ((v5.length : Nat) : Int).toNat 64)))) (cz (I0 49 (.bin .shl false (.c (.p (.int .i64 1))) (.t 48))) (by kernel_rfl)) (r_shl rfl rfl c5) rfl ?_
    refine jrd 1 [(0, eS 6 eTask a0), (1, eS 3 eStocked a1), (2, eS 1 vt a2), (9, eS 1 vt v5), (13, .own 0 0 v18.length), (14, vi v19), (15, vb v20), (16, vi ((v21 : Nat) : Int)), (50, vb (decide (((v21 : Nat) : Int) < (IntKind.i64.wrap (1 * 2 ^ (min ((v5.length : Nat) : Int).toNat 64))))))] [some (.row 1 (List.map vt v18))] (by kernel_rfl) rfl ?_
    refine TriE.cond (b := decide (((v21 : Nat) : Int) < (IntKind.i64.wrap (1 * 2 ^ (min ((v5.length : Nat) : Int).toNat 64))))) rfl (fun c6 => ?_) (fun c6 => ?_)
    · have h := cond_t h c6
      refine TriE.skip ?_
      refine TriE.seqK h (fun (t : Int × Bool × (List Str)) => match t with | (v30, v31, v32) => St.mk [(0, eS 6 eTask a0), (1, eS 3 eStocked a1), (2, eS 1 vt a2), (9, eS 1 vt v5), (13, .own 0 0 v32.length), (14, vi v30), (15, vb v31), (16, vi ((v21 : Nat) : Int))] [some (.row 1 (List.map vt v32))]) ?_ ?_
      · rintro ⟨v30, v31, v32⟩ h
        show TriE _ _ _ _ _ (St.mk [(0, eS 6 eTask a0), (1, eS 3 eStocked a1), (2, eS 1 vt a2), (9, eS 1 vt v5), (13, .own 0 0 v32.length), (14, vi v30), (15, vb v31), (16, vi ((v21 : Nat) : Int))] [some (.row 1 (List.map vt v32))]) _
        refine TriE.regJ ?_
        refine RegJ.run 1 [(0, eS 6 eTask a0), (1, eS 3 eStocked a1), (2, eS 1 vt a2), (9, eS 1 vt v5), (13, .own 0 0 v32.length), (14, vi v30), (15, vb v31), (51, vi ((v21 : Nat) : Int))] [some (.row 1 (List.map vt v32))] (by kernel_rfl) ?_
        obtain ⟨c14, h⟩ := chk_some h
        refine jv (vi ((v21 + 1 : Nat) : Int)) (cz (I0 52 (.bin .add false (.t 51) (.c (.p (.int .i64 1))))) (by kernel_rfl)) (r_addn (i := v21) (j := 1) rfl rfl c14) rfl ?_
        refine jrd 1 [(0, eS 6 eTask a0), (1, eS 3 eStocked a1), (2, eS 1 vt a2), (9, eS 1 vt v5), (13, .own 0 0 v32.length), (14, vi v30), (15, vb v31), (16, vi ((v21 + 1 : Nat) : Int))] [some (.row 1 (List.map vt v32))] (by kernel_rfl) rfl ?_
        exact Vs.intro (sl (by kernel_rfl)) ⟨(v32, v30, v31, v21 + 1), rfl, h⟩
      intro k4 h
      refine TriE.block ?_
      refine TriE.seq ?_
      refine TriE.run [(0, eS 6 eTask a0), (1, eS 3 eStocked a1), (2, eS 1 vt a2), (9, eS 1 vt v5), (13, .own 0 0 v18.length), (14, vi v19), (15, vb v20), (16, vi ((v21 : Nat) : Int)), (17, .emp)] [some (.row 1 (List.map vt v18))] (by kernel_rfl) ?_
      refine TriE.seqK h (fun (v26 : (List Str)) => St.mk [(0, eS 6 eTask a0), (1, eS 3 eStocked a1), (2, eS 1 vt a2), (9, eS 1 vt v5), (13, .own 0 0 v18.length), (14, vi v19), (15, vb v20), (16, vi ((v21 : Nat) : Int)), (17, .own 1 0 v26.length)] [some (.row 1 (List.map vt v18)), some (.row 1 (List.map vt v26))]) ?_ ?_
      · rintro v26 h
        show TriE _ _ _ _ _ (St.mk [(0, eS 6 eTask a0), (1, eS 3 eStocked a1), (2, eS 1 vt a2), (9, eS 1 vt v5), (13, .own 0 0 v18.length), (14, vi v19), (15, vb v20), (16, vi ((v21 : Nat) : Int)), (17, .own 1 0 v26.length)] [some (.row 1 (List.map vt v18)), some (.row 1 (List.map vt v26))]) _
        refine TriE.seq ?_
        refine TriE.seq ?_
        refine TriE.regJ ?_
        refine RegJ.run 3 [(0, eS 6 eTask a0), (1, eS 3 eStocked a1), (2, eS 1 vt a2), (9, eS 1 vt v5), (13, .own 0 0 v18.length), (14, vi v19), (15, vb v20), (16, vi ((v21 : Nat) : Int)), (17, .own 1 0 v26.length), (71, eS 6 eTask a0), (72, eS 1 vt a2), (73, .own 1 0 v26.length)] [some (.row 1 (List.map vt v18)), some (.row 1 (List.map vt v26))] (by kernel_rfl) ?_
        obtain ⟨y27, hy27, h⟩ := bind_some h
        refine RegJ.op (Op1.call (y' := vi y27) (obx := [some (.row 1 (List.map vt v26))]) (oby := [some (.row 1 (List.map vt v26))]) (ob2 := [some (.row 1 (List.map vt v18)), some (.row 1 (List.map vt v26))]) _ _ (cz (I0 74 (.call 56 [(.t 71), (.t 72), (.t 73)])) (by kernel_rfl)) rfl (agrafferef08_Closure_2_ok n a0 a2 v26 y27 hy27) [1] (by kernel_rfl) (.cons rfl (.cons rfl (.cons rfl (.cons rfl .nil)))) (by kernel_rfl) (by kernel_rfl) (.same (row_ren vt_frz _ _ _) .nil) (by kernel_rfl) (.same (row_ren vt_frz _ _ _) .nil) (by kernel_rfl)) ?_
        refine jrd 1 [(0, eS 6 eTask a0), (1, eS 3 eStocked a1), (2, eS 1 vt a2), (9, eS 1 vt v5), (13, .own 0 0 v18.length), (14, vi v19), (15, vb v20), (16, vi ((v21 : Nat) : Int)), (17, .own 1 0 v26.length), (75, vb (y27 != (0 : Int)))] [some (.row 1 (List.map vt v18)), some (.row 1 (List.map vt v26))] (by kernel_rfl) rfl ?_
        refine TriE.cond (b := (y27 != (0 : Int))) rfl (fun c12 => ?_) (fun c12 => ?_)
        · have h := cond_t h c12
          refine TriE.exit ?_
          exact Vs.intro (sc [0] (by decide) (by kernel_rfl) (obRen_row vt_frz rfl .nil) rfl rfl) ⟨(v19, v20, v18), rfl, h⟩
        have h := cond_f h c12
        refine TriE.skip ?_
        refine TriE.seq ?_
        refine TriE.regJ ?_
        refine RegJ.run 3 [(0, eS 6 eTask a0), (1, eS 3 eStocked a1), (2, eS 1 vt a2), (9, eS 1 vt v5), (13, .own 0 0 v18.length), (14, vi v19), (15, vb v20), (16, vi ((v21 : Nat) : Int)), (17, .own 1 0 v26.length), (77, eS 6 eTask a0), (78, eS 3 eStocked a1), (79, .own 1 0 v26.length)] [some (.row 1 (List.map vt v18)), some (.row 1 (List.map vt v26))] (by kernel_rfl) ?_
        obtain ⟨y28, hy28, h⟩ := bind_some h
        refine RegJ.op (Op1.call (y' := .tup [vi y28.1, vb y28.2]) (obx := [some (.row 1 (List.map vt v26))]) (oby := [some (.row 1 (List.map vt v26))]) (ob2 := [some (.row 1 (List.map vt v18)), some (.row 1 (List.map vt v26))]) _ _ (cz (I0 80 (.call 71 [(.t 77), (.t 78), (.t 79)])) (by kernel_rfl)) rfl (agrafferef08_Cost_2_ok n a0 a1 v26 y28 hy28) [1] (by kernel_rfl) (.cons rfl (.cons rfl (.cons rfl (.cons rfl .nil)))) (by kernel_rfl) (by kernel_rfl) (.same (row_ren vt_frz _ _ _) .nil) (by kernel_rfl) (.same (row_ren vt_frz _ _ _) .nil) (by kernel_rfl)) ?_
        refine jrd 5 [(0, eS 6 eTask a0), (1, eS 3 eStocked a1), (2, eS 1 vt a2), (9, eS 1 vt v5), (13, .own 0 0 v18.length), (14, vi v19), (15, vb v20), (16, vi ((v21 : Nat) : Int)), (17, .own 1 0 v26.length), (19, vi y28.1)] [some (.row 1 (List.map vt v18)), some (.row 1 (List.map vt v26))] (by kernel_rfl) rfl ?_
        refine TriE.seq ?_
        refine TriE.regJ ?_
        refine RegJ.run 3 [(0, eS 6 eTask a0), (1, eS 3 eStocked a1), (2, eS 1 vt a2), (9, eS 1 vt v5), (13, .own 0 0 v18.length), (14, vi v19), (15, vb v20), (16, vi ((v21 : Nat) : Int)), (17, .own 1 0 v26.length), (19, vi y28.1), (85, vb (!v20))] [some (.row 1 (List.map vt v18)), some (.row 1 (List.map vt v26))] (by kernel_rfl) ?_
        refine RegJ.op (Op1.valk (g := !(!v20)) (v := vi y28.1) _ _ (cz (IG 86 (.mov (.t 19)) 85 false) (by kernel_rfl)) rfl (by kernel_rfl) (fun hg => (.cons rfl .nil))) ?_
        refine RegJ.op (Op1.valk (g := !(!v20)) (v := vi v19) _ _ (cz (IG 87 (.mov (.t 14)) 85 false) (by kernel_rfl)) rfl (by kernel_rfl) (fun hg => (.cons rfl .nil))) ?_
        refine RegJ.op (Op1.valk (g := !(!v20)) (v := vb (decide (y28.1 < v19))) _ _ (cz (IG 88 (.bin .lss false (.t 86) (.t 87)) 85 false) (by kernel_rfl)) rfl (by kernel_rfl) (fun hg => (.cons hg (.cons hg .nil)))) ?_
        refine RegJ.op (Op1.or (cz (I0 89 (.pick (.t 85) (.c (.p (.bool true))) (.t 88))) (by kernel_rfl)) rfl rfl (by first | exact hokO1 | exact hokO0 | simp)) ?_
        refine RegJ.run 1 [(0, eS 6 eTask a0), (1, eS 3 eStocked a1), (2, eS 1 vt a2), (9, eS 1 vt v5), (13, .own 0 0 v18.length), (14, vi v19), (15, vb v20), (16, vi ((v21 : Nat) : Int)), (17, .own 1 0 v26.length), (19, vi y28.1), (86, .cond (!(!v20)) (vi y28.1)), (87, .cond (!(!v20)) (vi v19)), (88, .cond (!(!v20)) (vb (decide (y28.1 < v19)))), (90, vb ((!v20) || (decide (y28.1 < v19))))] [some (.row 1 (List.map vt v18)), some (.row 1 (List.map vt v26))] (by kernel_rfl) ?_
        refine RegJ.op (Op1.valk (g := !((!v20) || (decide (y28.1 < v19)))) (v := vi y28.1) _ _ (cz (IG 91 (.mov (.t 19)) 90 false) (by kernel_rfl)) rfl (by kernel_rfl) (fun hg => (.cons rfl .nil))) ?_
        refine RegJ.op (Op1.valk (g := !((!v20) || (decide (y28.1 < v19)))) (v := vi v19) _ _ (cz (IG 92 (.mov (.t 14)) 90 false) (by kernel_rfl)) rfl (by kernel_rfl) (fun hg => (.cons rfl .nil))) ?_
        refine RegJ.op (Op1.valk (g := !((!v20) || (decide (y28.1 < v19)))) (v := vb (y28.1 == v19)) _ _ (cz (IG 93 (.bin .eql false (.t 91) (.t 92)) 90 false) (by kernel_rfl)) rfl (by kernel_rfl) (fun hg => (.cons hg (.cons hg .nil)))) ?_
        refine RegJ.op (Op1.valk (g := !((!v20) || (decide (y28.1 < v19)))) (v := vb (y28.1 == v19)) _ _ (cz (IG 94 (.mov (.t 93)) 90 false) (by kernel_rfl)) rfl (by kernel_rfl) (fun hg => (.cons hg .nil))) ?_
        refine RegJ.op (Op1.valk (g := (!((!v20) || (decide (y28.1 < v19)))) && (y28.1 == v19)) (v := .own 1 0 v26.length) _ _ (cz (IG 95 (.mov (.t 17)) 94 true) (by kernel_rfl)) rfl (by kernel_rfl) (fun hg => (.cons rfl .nil))) ?_
        refine RegJ.op (Op1.valk (g := (!((!v20) || (decide (y28.1 < v19)))) && (y28.1 == v19)) (v := vi ((v26.length : Nat) : Int)) _ _ (cz (IG 96 (.len 0 (.t 95)) 94 true) (by kernel_rfl)) rfl (by kernel_rfl) (fun hg => (.cons hg .nil))) ?_
        refine RegJ.op (Op1.valk (g := (!((!v20) || (decide (y28.1 < v19)))) && (y28.1 == v19)) (v := .own 0 0 v18.length) _ _ (cz (IG 97 (.mov (.t 13)) 94 true) (by kernel_rfl)) rfl (by kernel_rfl) (fun hg => (.cons rfl .nil))) ?_
        refine RegJ.op (Op1.valk (g := (!((!v20) || (decide (y28.1 < v19)))) && (y28.1 == v19)) (v := vi ((v18.length : Nat) : Int)) _ _ (cz (IG 98 (.len 0 (.t 97)) 94 true) (by kernel_rfl)) rfl (by kernel_rfl) (fun hg => (.cons hg .nil))) ?_
        refine RegJ.op (Op1.valg (g := (!((!v20) || (decide (y28.1 < v19)))) && (y28.1 == v19)) (v := vb (decide (v26.length < v18.length))) _ _ (cz (IG 99 (.bin .lss false (.t 96) (.t 98)) 94 true) (by kernel_rfl)) rfl (fun hg => (n_lss (i := v26.length) (j := v18.length) rfl rfl)) (fun hg => (.cons hg (.cons hg .nil)))) ?_
        refine RegJ.op (Op1.valk (g := (!((!v20) || (decide (y28.1 < v19)))) && (y28.1 == v19)) (v := vb (decide (v26.length < v18.length))) _ _ (cz (IG 100 (.mov (.t 99)) 94 true) (by kernel_rfl)) rfl (by kernel_rfl) (fun hg => (.cons hg .nil))) ?_
        refine RegJ.op (Op1.valk (g := ((!((!v20) || (decide (y28.1 < v19)))) && (y28.1 == v19)) && !(decide (v26.length < v18.length))) (v := .own 1 0 v26.length) _ _ (cz (IG 101 (.mov (.t 17)) 100 false) (by kernel_rfl)) rfl (by kernel_rfl) (fun hg => (.cons rfl .nil))) ?_
        refine RegJ.op (Op1.valk (g := ((!((!v20) || (decide (y28.1 < v19)))) && (y28.1 == v19)) && !(decide (v26.length < v18.length))) (v := vi ((v26.length : Nat) : Int)) _ _ (cz (IG 102 (.len 0 (.t 101)) 100 false) (by kernel_rfl)) rfl (by kernel_rfl) (fun hg => (.cons hg .nil))) ?_
        refine RegJ.op (Op1.valk (g := ((!((!v20) || (decide (y28.1 < v19)))) && (y28.1 == v19)) && !(decide (v26.length < v18.length))) (v := .own 0 0 v18.length) _ _ (cz (IG 103 (.mov (.t 13)) 100 false) (by kernel_rfl)) rfl (by kernel_rfl) (fun hg => (.cons rfl .nil))) ?_
        refine RegJ.op (Op1.valk (g := ((!((!v20) || (decide (y28.1 < v19)))) && (y28.1 == v19)) && !(decide (v26.length < v18.length))) (v := vi ((v18.length : Nat) : Int)) _ _ (cz (IG 104 (.len 0 (.t 103)) 100 false) (by kernel_rfl)) rfl (by kernel_rfl) (fun hg => (.cons hg .nil))) ?_
        refine RegJ.op (Op1.valg (g := ((!((!v20) || (decide (y28.1 < v19)))) && (y28.1 == v19)) && !(decide (v26.length < v18.length))) (v := vb (decide (v26.length = v18.length))) _ _ (cz (IG 105 (.bin .eql false (.t 102) (.t 104)) 100 false) (by kernel_rfl)) rfl (fun hg => (n_eql (i := v26.length) (j := v18.length) rfl rfl)) (fun hg => (.cons hg (.cons hg .nil)))) ?_
        refine RegJ.op (Op1.valk (g := ((!((!v20) || (decide (y28.1 < v19)))) && (y28.1 == v19)) && !(decide (v26.length < v18.length))) (v := vb (decide (v26.length = v18.length))) _ _ (cz (IG 106 (.mov (.t 105)) 100 false) (by kernel_rfl)) rfl (by kernel_rfl) (fun hg => (.cons hg .nil))) ?_
        refine RegJ.op (Op1.valk (g := (((!((!v20) || (decide (y28.1 < v19)))) && (y28.1 == v19)) && !(decide (v26.length < v18.length))) && (decide (v26.length = v18.length))) (v := .own 1 0 v26.length) _ _ (cz (IG 107 (.mov (.t 17)) 106 true) (by kernel_rfl)) rfl (by kernel_rfl) (fun hg => (.cons rfl .nil))) ?_
        refine RegJ.op (Op1.valk (g := (((!((!v20) || (decide (y28.1 < v19)))) && (y28.1 == v19)) && !(decide (v26.length < v18.length))) && (decide (v26.length = v18.length))) (v := .own 0 0 v18.length) _ _ (cz (IG 108 (.mov (.t 13)) 106 true) (by kernel_rfl)) rfl (by kernel_rfl) (fun hg => (.cons rfl .nil))) ?_
        obtain ⟨y29, hy29, h⟩ := bind_some h
        refine RegJ.op (Op1.callg (g := (((!((!v20) || (decide (y28.1 < v19)))) && (y28.1 == v19)) && !(decide (v26.length < v18.length))) && (decide (v26.length = v18.length))) (y' := vb y29) (obx := [some (.row 1 (List.map vt v26)), some (.row 1 (List.map vt v18))]) _ _ (cz (IG 109 (.call 106 [(.t 107), (.t 108)]) 106 true) (by kernel_rfl)) rfl (fun hg => agrafferef08_less_2_ok n v26 v18 y29 (gcall_some hy29 hg)) [1, 0] (fun hg => by kernel_rfl) (fun hg => (.cons rfl (.cons hg (.cons hg .nil)))) (by kernel_rfl) (by kernel_rfl) (.same (row_ren vt_frz _ _ _) (.same (row_ren vt_frz _ _ _) .nil)) (by kernel_rfl) (by kernel_rfl)) ?_
        refine RegJ.op (Op1.andg (g := ((!((!v20) || (decide (y28.1 < v19)))) && (y28.1 == v19)) && !(decide (v26.length < v18.length))) (cz (IG 110 (.pick (.t 106) (.t 109) (.c (.p (.bool false)))) 100 false) (by kernel_rfl)) rfl rfl rfl (fun hg => by first | exact hokA2 hg | exact hokA3 hg | exact hokA1 | exact hokA0 | (rw [hg]; simp) | simp_all)) ?_
        refine RegJ.op (Op1.org (g := (!((!v20) || (decide (y28.1 < v19)))) && (y28.1 == v19)) (cz (IG 111 (.pick (.t 100) (.c (.p (.bool true))) (.t 110)) 94 true) (by kernel_rfl)) rfl rfl rfl (fun hg => by first | exact hokO2 hg | exact hokO3 hg | exact hokO1 | exact hokO0 | (rw [hg]; simp) | simp_all)) ?_
        refine RegJ.op (Op1.andg (g := !((!v20) || (decide (y28.1 < v19)))) (cz (IG 112 (.pick (.t 94) (.t 111) (.c (.p (.bool false)))) 90 false) (by kernel_rfl)) rfl rfl rfl (fun hg => by first | exact hokA2 hg | exact hokA3 hg | exact hokA1 | exact hokA0 | (rw [hg]; simp) | simp_all)) ?_
        refine RegJ.op (Op1.or (cz (I0 113 (.pick (.t 90) (.c (.p (.bool true))) (.t 112))) (by kernel_rfl)) rfl rfl (by first | exact hokO1 | exact hokO0 | simp)) ?_
        refine jd [(0, eS 6 eTask a0), (1, eS 3 eStocked a1), (2, eS 1 vt a2), (9, eS 1 vt v5), (13, .own 0 0 v18.length), (14, vi v19), (15, vb v20), (16, vi ((v21 : Nat) : Int)), (17, .own 1 0 v26.length), (19, vi y28.1), (113, vb (((!v20) || (decide (y28.1 < v19))) || ((y28.1 == v19) && ((decide (v26.length < v18.length)) || ((decide (v26.length = v18.length)) && y29)))))] (by kernel_rfl) rfl ?_
        refine TriE.cond (b := ((!v20) || (decide (y28.1 < v19))) || ((y28.1 == v19) && ((decide (v26.length < v18.length)) || ((decide (v26.length = v18.length)) && y29)))) rfl (fun c13 => ?_) (fun c13 => ?_)
        · have h := cond_t h c13
          refine TriE.run [(0, eS 6 eTask a0), (1, eS 3 eStocked a1), (2, eS 1 vt a2), (9, eS 1 vt v5), (16, vi ((v21 : Nat) : Int)), (13, .own 1 0 v26.length), (14, vi y28.1), (15, vb true)] [some (.row 1 (List.map vt v18)), some (.row 1 (List.map vt v26))] (by kernel_rfl) ?_
          exact Vs.intro (sc [1] (by decide) (by kernel_rfl) (obRen_row vt_frz rfl .nil) rfl rfl) ⟨(y28.1, true, v26), rfl, h⟩
        have h := cond_f h c13
        refine TriE.skip ?_
        exact Vs.intro (sc [0] (by decide) (by kernel_rfl) (obRen_row vt_frz rfl .nil) rfl rfl) ⟨(v19, v20, v18), rfl, h⟩
      intro k3 h
      refine TriE.seq ?_
      refine TriE.run [(0, eS 6 eTask a0), (1, eS 3 eStocked a1), (2, eS 1 vt a2), (9, eS 1 vt v5), (13, .own 0 0 v18.length), (14, vi v19), (15, vb v20), (16, vi ((v21 : Nat) : Int)), (17, .emp), (18, vi 0)] [some (.row 1 (List.map vt v18))] (by kernel_rfl) ?_
      refine TriE.block ?_
      refine TriE.sees (S' := ⟨[(0, eS 6 eTask a0), (1, eS 3 eStocked a1), (2, eS 1 vt a2), (9, eS 1 vt v5), (13, .own 0 0 v18.length), (14, vi v19), (15, vb v20), (16, vi ((v21 : Nat) : Int)), (17, .own 1 0 ([] : List Str).length), (18, vi ((0 : Nat) : Int))], [some (.row 1 (List.map vt v18)), some (.row 1 (List.map vt ([] : List Str)))]⟩) (Sees.trans (Sees.co (fr' := [(0, eS 6 eTask a0), (1, eS 3 eStocked a1), (2, eS 1 vt a2), (9, eS 1 vt v5), (13, .own 0 0 v18.length), (14, vi v19), (15, vb v20), (16, vi ((v21 : Nat) : Int)), (17, .own 1 0 0), (18, vi 0)]) (ob' := [some (.row 1 (List.map vt v18))]) (.cons .same (.cons .same (.cons .same (.cons .same (.cons .same (.cons .same (.cons .same (.cons .same (.cons .own (.cons .same .nil)))))))))) (.same .nil) 1) (sl (by kernel_rfl))) ?_
      refine TriE.loopN h (fun (t : (List Str) × Nat) => match t with | (v23, v24) => St.mk [(0, eS 6 eTask a0), (1, eS 3 eStocked a1), (2, eS 1 vt a2), (9, eS 1 vt v5), (13, .own 0 0 v18.length), (14, vi v19), (15, vb v20), (16, vi ((v21 : Nat) : Int)), (17, .own 1 0 v23.length), (18, vi ((v24 : Nat) : Int))] [some (.row 1 (List.map vt v18)), some (.row 1 (List.map vt v23))]) rfl ?_
      clear h
      rintro back ⟨v23, v24⟩ h
      dsimp only [agrafferef08_Cheapest_L2] at h
      show TriE _ _ _ _ _ (St.mk [(0, eS 6 eTask a0), (1, eS 3 eStocked a1), (2, eS 1 vt a2), (9, eS 1 vt v5), (13, .own 0 0 v18.length), (14, vi v19), (15, vb v20), (16, vi ((v21 : Nat) : Int)), (17, .own 1 0 v23.length), (18, vi ((v24 : Nat) : Int))] [some (.row 1 (List.map vt v18)), some (.row 1 (List.map vt v23))]) _
      refine TriE.seq ?_
      refine TriE.seq ?_
      refine TriE.regJ ?_
      refine RegJ.run 2 [(0, eS 6 eTask a0), (1, eS 3 eStocked a1), (2, eS 1 vt a2), (9, eS 1 vt v5), (13, .own 0 0 v18.length), (14, vi v19), (15, vb v20), (16, vi ((v21 : Nat) : Int)), (17, .own 1 0 v23.length), (18, vi ((v24 : Nat) : Int)), (53, vi ((v24 : Nat) : Int)), (54, eS 1 vt v5)] [some (.row 1 (List.map vt v18)), some (.row 1 (List.map vt v23))] (by kernel_rfl) ?_
      refine jv (vi ((v5.length : Nat) : Int)) (cz (I0 55 (.len 0 (.t 54))) (by kernel_rfl)) (ok_len_m rfl) rfl ?_
      refine jv (vb (decide (v24 < v5.length))) (cz (I0 56 (.bin .lss false (.t 53) (.t 55))) (by kernel_rfl)) (n_lss (i := v24) (j := v5.length) rfl rfl) rfl ?_
      refine jd [(0, eS 6 eTask a0), (1, eS 3 eStocked a1), (2, eS 1 vt a2), (9, eS 1 vt v5), (13, .own 0 0 v18.length), (14, vi v19), (15, vb v20), (16, vi ((v21 : Nat) : Int)), (17, .own 1 0 v23.length), (18, vi ((v24 : Nat) : Int)), (56, vb (decide (v24 < v5.length)))] (by kernel_rfl) rfl ?_
      refine TriE.cond (b := decide (v24 < v5.length)) rfl (fun c7 => ?_) (fun c7 => ?_)
      · have h := cond_t h c7
        refine TriE.skip ?_
        refine TriE.seqK h (fun (v25 : (List Str)) => St.mk [(0, eS 6 eTask a0), (1, eS 3 eStocked a1), (2, eS 1 vt a2), (9, eS 1 vt v5), (13, .own 0 0 v18.length), (14, vi v19), (15, vb v20), (16, vi ((v21 : Nat) : Int)), (18, vi ((v24 : Nat) : Int)), (17, .own 1 0 v25.length)] [some (.row 1 (List.map vt v18)), some (.row 1 (List.map vt v25))]) ?_ ?_
        · rintro v25 h
          show TriE _ _ _ _ _ (St.mk [(0, eS 6 eTask a0), (1, eS 3 eStocked a1), (2, eS 1 vt a2), (9, eS 1 vt v5), (13, .own 0 0 v18.length), (14, vi v19), (15, vb v20), (16, vi ((v21 : Nat) : Int)), (18, vi ((v24 : Nat) : Int)), (17, .own 1 0 v25.length)] [some (.row 1 (List.map vt v18)), some (.row 1 (List.map vt v25))]) _
          refine TriE.regJ ?_
          refine RegJ.run 1 [(0, eS 6 eTask a0), (1, eS 3 eStocked a1), (2, eS 1 vt a2), (9, eS 1 vt v5), (13, .own 0 0 v18.length), (14, vi v19), (15, vb v20), (16, vi ((v21 : Nat) : Int)), (17, .own 1 0 v25.length), (57, vi ((v24 : Nat) : Int))] [some (.row 1 (List.map vt v18)), some (.row 1 (List.map vt v25))] (by kernel_rfl) ?_
          obtain ⟨c11, h⟩ := chk_some h
          refine jv (vi ((v24 + 1 : Nat) : Int)) (cz (I0 58 (.bin .add false (.t 57) (.c (.p (.int .i64 1))))) (by kernel_rfl)) (r_addn (i := v24) (j := 1) rfl rfl c11) rfl ?_
          refine jrd 1 [(0, eS 6 eTask a0), (1, eS 3 eStocked a1), (2, eS 1 vt a2), (9, eS 1 vt v5), (13, .own 0 0 v18.length), (14, vi v19), (15, vb v20), (16, vi ((v21 : Nat) : Int)), (17, .own 1 0 v25.length), (18, vi ((v24 + 1 : Nat) : Int))] [some (.row 1 (List.map vt v18)), some (.row 1 (List.map vt v25))] (by kernel_rfl) rfl ?_
          exact Vs.intro (sl (by kernel_rfl)) ⟨(v25, v24 + 1), rfl, h⟩
        intro k2 h
        refine TriE.block ?_
        refine TriE.seq ?_
        refine TriE.regJ ?_
        refine RegJ.run 2 [(0, eS 6 eTask a0), (1, eS 3 eStocked a1), (2, eS 1 vt a2), (9, eS 1 vt v5), (13, .own 0 0 v18.length), (14, vi v19), (15, vb v20), (16, vi ((v21 : Nat) : Int)), (17, .own 1 0 v23.length), (18, vi ((v24 : Nat) : Int)), (59, vi ((v21 : Nat) : Int)), (60, vi ((v24 : Nat) : Int))] [some (.row 1 (List.map vt v18)), some (.row 1 (List.map vt v23))] (by kernel_rfl) ?_
        obtain ⟨c8, h⟩ := chk_some h
        refine jv (vi (Int.fdiv ((v21 : Nat) : Int) (2 ^ (min ((v24 : Nat) : Int).toNat 64)))) (cz (I0 61 (.bin .shr false (.t 59) (.t 60))) (by kernel_rfl)) (r_shr rfl rfl c8) rfl ?_
        refine jrd 2 [(0, eS 6 eTask a0), (1, eS 3 eStocked a1), (2, eS 1 vt a2), (9, eS 1 vt v5), (13, .own 0 0 v18.length), (14, vi v19), (15, vb v20), (16, vi ((v21 : Nat) : Int)), (17, .own 1 0 v23.length), (18, vi ((v24 : Nat) : Int)), (63, vb ((iAnd .i64 (Int.fdiv ((v21 : Nat) : Int) (2 ^ (min ((v24 : Nat) : Int).toNat 64))) 1) == (1 : Int)))] [some (.row 1 (List.map vt v18)), some (.row 1 (List.map vt v23))] (by kernel_rfl) rfl ?_
        refine TriE.cond (b := ((iAnd .i64 (Int.fdiv ((v21 : Nat) : Int) (2 ^ (min ((v24 : Nat) : Int).toNat 64))) 1) == (1 : Int))) rfl (fun c9 => ?_) (fun c9 => ?_)
        · have h := cond_t h c9
          refine TriE.regJ ?_
          refine RegJ.run 3 [(0, eS 6 eTask a0), (1, eS 3 eStocked a1), (2, eS 1 vt a2), (9, eS 1 vt v5), (13, .own 0 0 v18.length), (14, vi v19), (15, vb v20), (16, vi ((v21 : Nat) : Int)), (18, vi ((v24 : Nat) : Int)), (64, .own 1 0 v23.length), (65, eS 1 vt v5), (66, vi ((v24 : Nat) : Int))] [some (.row 1 (List.map vt v18)), some (.row 1 (List.map vt v23))] (by kernel_rfl) ?_
          refine jv (.fptr 1 (List.map vt v5) v24 0) (cz (I0 67 (.iaddr 1 (.t 65) (.t 66))) (by kernel_rfl)) (ok_iaddr_m (j := v24) rfl rfl rfl c7) rfl ?_
          refine jv (vt (ix v5 v24)) (cz (I0 68 (.load false 1 (.t 67))) (by kernel_rfl)) (ok_load_fm (v := vt (ix v5 v24)) rfl c7 rfl) rfl ?_
          refine RegJ.run 1 [(0, eS 6 eTask a0), (1, eS 3 eStocked a1), (2, eS 1 vt a2), (9, eS 1 vt v5), (13, .own 0 0 v18.length), (14, vi v19), (15, vb v20), (16, vi ((v21 : Nat) : Int)), (18, vi ((v24 : Nat) : Int)), (64, .own 1 0 v23.length), (69, .own 2 0 1)] [some (.row 1 (List.map vt v18)), some (.row 1 (List.map vt v23)), some (.row 1 [vt (ix v5 v24)])] (by kernel_rfl) ?_
          obtain ⟨c10, h⟩ := chk_some h
          refine je (.own 3 0 ((v23 ++ ([(ix v5 v24)] : List Str)).length)) [some (.row 1 (List.map vt v18)), none, some (.row 1 [vt (ix v5 v24)]), some (.row 1 (List.map vt (v23 ++ ([(ix v5 v24)] : List Str))))] (cz (I0 70 (.app 1 16 (.t 64) (.t 69))) (by kernel_rfl)) (ok_app_own (l := v23) (l2 := ([(ix v5 v24)] : List Str)) (e := vt) (u := .own 2 0 1) rfl rfl rfl rfl rfl c10) rfl rfl rfl ?_
          refine jrd 1 [(0, eS 6 eTask a0), (1, eS 3 eStocked a1), (2, eS 1 vt a2), (9, eS 1 vt v5), (13, .own 0 0 v18.length), (14, vi v19), (15, vb v20), (16, vi ((v21 : Nat) : Int)), (18, vi ((v24 : Nat) : Int)), (17, .own 3 0 ((v23 ++ ([(ix v5 v24)] : List Str)).length))] [some (.row 1 (List.map vt v18)), none, some (.row 1 [vt (ix v5 v24)]), some (.row 1 (List.map vt (v23 ++ ([(ix v5 v24)] : List Str))))] (by kernel_rfl) rfl ?_
          exact Vs.intro (sc [0, 3] (by decide) (by kernel_rfl) (obRen_row vt_frz rfl (obRen_row vt_frz rfl .nil)) rfl rfl) ⟨(v23 ++ ([(ix v5 v24)] : List Str)), rfl, h⟩
        have h := cond_f h c9
        refine TriE.skip ?_
        exact Vs.intro (sl (by kernel_rfl)) ⟨v23, rfl, h⟩
      have h := cond_f h c7
      refine TriE.exit ?_
      exact Vs.intro (sl (by kernel_rfl)) ⟨v23, rfl, h⟩
    have h := cond_f h c6
    refine TriE.exit ?_
    exact Vs.intro (sl (by kernel_rfl)) ⟨(v19, v18), rfl, h⟩
  intro k1 h
  refine TriE.seq ?_
  refine TriE.run [(0, eS 6 eTask a0), (1, eS 3 eStocked a1), (2, eS 1 vt a2), (9, .emp), (10, vi 0)] [] (by kernel_rfl) ?_
  refine TriE.block ?_
  refine TriE.sees (S' := ⟨[(0, eS 6 eTask a0), (1, eS 3 eStocked a1), (2, eS 1 vt a2), (9, eS 1 vt ([] : List Str)), (10, vi ((0 : Nat) : Int))], []⟩) (Sees.trans (Sees.vco (fr' := [(0, eS 6 eTask a0), (1, eS 3 eStocked a1), (2, eS 1 vt a2), (9, eS 1 vt ([] : List Str)), (10, vi 0)]) (.cons .same (.cons .same (.cons .same (.cons .sl (.cons .same .nil)))))) (sl (by kernel_rfl))) ?_
  refine TriE.loopN h (fun (t : (List Str) × Nat) => match t with | (v2, v3) => St.mk [(0, eS 6 eTask a0), (1, eS 3 eStocked a1), (2, eS 1 vt a2), (9, eS 1 vt v2), (10, vi ((v3 : Nat) : Int))] []) rfl ?_
  clear h
  rintro back ⟨v2, v3⟩ h
  dsimp only [agrafferef08_Cheapest_L1] at h
  show TriE _ _ _ _ _ (St.mk [(0, eS 6 eTask a0), (1, eS 3 eStocked a1), (2, eS 1 vt a2), (9, eS 1 vt v2), (10, vi ((v3 : Nat) : Int))] []) _
  refine TriE.seq ?_
  refine TriE.seq ?_
  refine TriE.regJ ?_
  refine RegJ.run 2 [(0, eS 6 eTask a0), (1, eS 3 eStocked a1), (2, eS 1 vt a2), (9, eS 1 vt v2), (10, vi ((v3 : Nat) : Int)), (21, vi ((v3 : Nat) : Int)), (22, eS 6 eTask a0)] [] (by kernel_rfl) ?_
  refine jv (vi ((a0.length : Nat) : Int)) (cz (I0 23 (.len 0 (.t 22))) (by kernel_rfl)) (ok_len_m rfl) rfl ?_
  refine jv (vb (decide (v3 < a0.length))) (cz (I0 24 (.bin .lss false (.t 21) (.t 23))) (by kernel_rfl)) (n_lss (i := v3) (j := a0.length) rfl rfl) rfl ?_
  refine jd [(0, eS 6 eTask a0), (1, eS 3 eStocked a1), (2, eS 1 vt a2), (9, eS 1 vt v2), (10, vi ((v3 : Nat) : Int)), (24, vb (decide (v3 < a0.length)))] (by kernel_rfl) rfl ?_
  refine TriE.cond (b := decide (v3 < a0.length)) rfl (fun c1 => ?_) (fun c1 => ?_)
  · have h := cond_t h c1
    refine TriE.skip ?_
    refine TriE.seq ?_
    refine TriE.block ?_
    refine TriE.regJ ?_
    refine RegJ.run 3 [(0, eS 6 eTask a0), (1, eS 3 eStocked a1), (2, eS 1 vt a2), (10, vi ((v3 : Nat) : Int)), (27, eS 1 vt v2), (28, eS 6 eTask a0), (29, vi ((v3 : Nat) : Int))] [] (by kernel_rfl) ?_
    refine jv (.fptr 6 (List.map eTask a0) v3 0) (cz (I0 30 (.iaddr 6 (.t 28) (.t 29))) (by kernel_rfl)) (ok_iaddr_m (j := v3) rfl rfl rfl c1) rfl ?_
    refine RegJ.run 1 [(0, eS 6 eTask a0), (1, eS 3 eStocked a1), (2, eS 1 vt a2), (10, vi ((v3 : Nat) : Int)), (27, eS 1 vt v2), (31, .fptr 6 (List.map eTask a0) v3 0)] [] (by kernel_rfl) ?_
    refine jv (vt ((ix a0 v3).Name)) (cz (I0 32 (.load false 1 (.t 31))) (by kernel_rfl)) (ok_load_fm (v := vt ((ix a0 v3).Name)) rfl c1 rfl) rfl ?_
    obtain ⟨y4, hy4, h⟩ := bind_some h
    refine RegJ.op (Op1.call (y' := eS 1 vt y4) (obx := []) (oby := []) (ob2 := []) _ _ (cz (I0 33 (.call 105 [(.t 27), (.t 32)])) (by kernel_rfl)) rfl (agrafferef08_Put_ok n v2 ((ix a0 v3).Name) y4 hy4) [] (by kernel_rfl) (.cons rfl (.cons rfl (.cons rfl .nil))) (by kernel_rfl) (by kernel_rfl) ObsRen.nil (by kernel_rfl) ObsRen.nil (by kernel_rfl)) ?_
    refine jrd 1 [(0, eS 6 eTask a0), (1, eS 3 eStocked a1), (2, eS 1 vt a2), (10, vi ((v3 : Nat) : Int)), (9, eS 1 vt y4)] [] (by kernel_rfl) rfl ?_
    refine TriE.regJ ?_
    refine RegJ.run 1 [(0, eS 6 eTask a0), (1, eS 3 eStocked a1), (2, eS 1 vt a2), (9, eS 1 vt y4), (25, vi ((v3 : Nat) : Int))] [] (by kernel_rfl) ?_
    obtain ⟨c2, h⟩ := chk_some h
    refine jv (vi ((v3 + 1 : Nat) : Int)) (cz (I0 26 (.bin .add false (.t 25) (.c (.p (.int .i64 1))))) (by kernel_rfl)) (r_addn (i := v3) (j := 1) rfl rfl c2) rfl ?_
    refine jrd 1 [(0, eS 6 eTask a0), (1, eS 3 eStocked a1), (2, eS 1 vt a2), (9, eS 1 vt y4), (10, vi ((v3 + 1 : Nat) : Int))] [] (by kernel_rfl) rfl ?_
    exact Vs.intro (sl (by kernel_rfl)) ⟨(y4, v3 + 1), rfl, h⟩
  have h := cond_f h c1
  refine TriE.exit ?_
  exact Vs.intro (sl (by kernel_rfl)) ⟨v2, rfl, h⟩
theorem slices_IndexFunc_Finding_2_ok (n : Nat) (a0 : List Finding) (a1 : Str) (a2 : List Str) (r : Int) (h : slices_IndexFunc_Finding_2 n a0 a1 a2 = some r) : FnL Tryz.prog 161 [eS 2 eFinding a0, .fn (.func 95) [] [.ptr 0 0 0]] [some (.row 2 [.agg [vt a1, eS 1 vt a2]])] (vi r) [some (.row 2 [.agg [vt a1, eS 1 vt a2]])] := by
 dsimp only [slices_IndexFunc_Finding_2] at h
 refine fob [4] Tryz.call161 Tryz.func161 rfl (.cons rfl .nil) ?_
 refine sk .a ?_
 refine TriE.seqK h (fun (_ : Unit) => St.mk [] [some (.row 2 [.agg [vt a1, eS 1 vt a2]])]) ?_ ?_
 ·rintro ⟨⟩ h
  refine sk (.i 4 (vi (-1)) .n) ?_
  refine q3 ?_
  have h := si h
  subst h
  exact DoneS.ret Sees.refl rfl rfl
 intro k1 h
 refine sj ?_
 refine rk 1 (.k2 (.i 6 (eS 2 eFinding a0) .n)) ?_
 refine jo 7 (.len 0 6) (ok_len_m rfl) ?_
 refine jk 1 (.d (.k2 (.i 7 (vi (a0.length : Int)) (.i 8 (vi 0) .n)))) ?_
 refine q4 ?_
 refine ts (.k3 (.i 8 (vi 0) .n)) ?_
 refine TriE.loopN h (fun (v2 : Nat) => St.mk [(0, eS 2 eFinding a0), (1, .fn (.func 95) [] [.ptr 0 0 0]), (7, vi (a0.length : Int)), (8, vi v2)] [some (.row 2 [.agg [vt a1, eS 1 vt a2]])]) rfl ?_
 clear h
 rintro back v2 h
 dsimp only [slices_IndexFunc_Finding_2_L1] at h
 refine sj ?_
 refine jo 9 (.bin .lss false 8 7) (n_lss (i := v2) (j := a0.length) rfl rfl) ?_
 refine jf (.d (.k4 (.i 9 (vb (decide (v2 < a0.length))) .n))) ?_
 refine q1 ?_
 refine tc h (fun c1 h => ?_) (fun c1 h => ?_)
 ·refine q2 ?_
  refine q7 ?_
  refine sk (.k4 (.i 5 (vi v2) .n)) ?_
  refine sj ?_
  refine rk 3 (.k4 (.k (.i 11 (.fn (.func 95) [] [.ptr 0 0 0]) (.i 12 (eS 2 eFinding a0) (.i 13 (vi v2) .n))))) ?_
  refine jo 14 (.iaddr 2 12 13) (ok_iaddr_m (j := v2) rfl rfl rfl c1) ?_
  refine jo 15 (.load true 2 14) (ok_load_fm (v := .agg [vt ((ix a0 v2).Name), eS 1 vt ((ix a0 v2).Tasks)]) rfl c1 rfl) ?_
  obtain ⟨y3, hy3, h⟩ := bs h
  refine jy (vb ((ix a0 v2).Name == a1)) 16 11 [15] rfl (restore_CheckFindings_f1_ok n (ix a0 v2) a1 a2 y3 hy3) [0] rfl (.cons rfl .nil) (.cons rfl .nil) rfl ?_
  refine jf (.d3 (.k4 (.k (.i 16 (vb ((ix a0 v2).Name == a1)) .n)))) ?_
  refine tc h (fun c2 h => ?_) (fun c2 h => ?_)
  ·refine sk (.i 4 (vi v2) .n) ?_
   refine q3 ?_
   have h := si h
   subst h
   exact DoneS.ret Sees.refl rfl rfl
  refine q2 ?_
  refine q6 ?_
  obtain ⟨c3, h⟩ := ck h
  refine jo 18 (.bin .add false 8 (ki 1)) (r_addn (i := v2) (j := 1) rfl rfl c3) ?_
  refine jk 1 (.d (.k3 (.i 8 (vi ((v2 + 1 : Nat) : Int)) .n))) ?_
  exact Vs.intro sy ⟨(v2 + 1), rfl, h⟩
 refine q5 ?_
 exact Vs.intro sy ⟨(), rfl, h⟩
theorem slices_ContainsFunc_Finding_2_ok (n : Nat) (a0 : List Finding) (a1 : Str) (a2 : List Str) (r : Bool) (h : slices_ContainsFunc_Finding_2 n a0 a1 a2 = some r) : FnL Tryz.prog 94 [eS 2 eFinding a0, .fn (.func 95) [] [.ptr 0 0 0]] [some (.row 2 [.agg [vt a1, eS 1 vt a2]])] (vb r) [some (.row 2 [.agg [vt a1, eS 1 vt a2]])] := by
 dsimp only [slices_ContainsFunc_Finding_2] at h
 refine fob [4] Tryz.call94 Tryz.func94 rfl (.cons rfl .nil) ?_
 refine sk .a ?_
 refine sj ?_
 refine rk 2 (.i 5 (eS 2 eFinding a0) (.i 6 (.fn (.func 95) [] [.ptr 0 0 0]) .n)) ?_
 obtain ⟨y1, hy1, h⟩ := bs h
 refine jco (vi y1) 7 [5, 6] (slices_IndexFunc_Finding_2_ok n a0 a1 a2 y1 hy1) [0] rfl (.cons rfl .nil) (.cons rfl .nil) rfl ?_
 refine jk 2 (.i 4 (vb (decide ((0 : Int) ≤ y1))) .n) ?_
 refine q3 ?_
 have h := si h
 subst h
 exact DoneS.ret Sees.refl rfl rfl
set_option maxHeartbeats 1000000 in
theorem restore_CheckFindings_2_ok (n : Nat) (a0 : List Task) (a1 : List Finding) (r : Int) (h : restore_CheckFindings_2 n a0 a1 = some r) : FnL Tryz.prog 25 [eS 6 eTask a0, eS 2 eFinding a1] [] (vi r) [] := by
 dsimp only [restore_CheckFindings_2] at h
 refine fo [4] Tryz.call25 Tryz.func25 rfl ?_
 refine sk .a ?_
 refine q1 ?_
 refine sj ?_
 refine rk 1 (.k2 (.i 9 (eS 6 eTask a0) .n)) ?_
 obtain ⟨y1, hy1, h⟩ := bs h
 refine jc 10 [9] (restore_CheckTasks_ok n a0 y1 hy1) ?_
 refine jk 1 (.d (.k2 (.i 5 (vi y1) .n))) ?_
 refine sk (.k3 (.i 12 (vb (y1 != (0 : Int))) .n)) ?_
 refine tc h (fun c1 h => ?_) (fun c1 h => ?_)
 ·refine sk (.i 4 (vi y1) .n) ?_
  refine q3 ?_
  have h := si h
  subst h
  exact DoneS.ret Sees.refl rfl rfl
 refine q2 ?_
 refine q1 ?_
 refine sj ?_
 refine rk 1 (.k2 (.i 14 (eS 2 eFinding a1) .n)) ?_
 refine jo 15 (.len 0 14) (ok_len_m rfl) ?_
 refine jo 16 (.bin .gtr false 15 (ki 40)) (n_gtr (i := a1.length) (j := 40) rfl rfl) ?_
 refine jf (.d2 (.k2 (.i 16 (vb (decide (40 < a1.length))) .n))) ?_
 refine tc h (fun c2 h => ?_) (fun c2 h => ?_)
 ·refine sk (.i 4 (vi 8) .n) ?_
  refine q3 ?_
  have h := si h
  subst h
  exact DoneS.ret Sees.refl rfl rfl
 refine q2 ?_
 refine TriE.seqK h (fun (_ : Unit) => St.mk [] []) ?_ ?_
 ·rintro ⟨⟩ h
  refine sk (.i 4 (vi 0) .n) ?_
  refine q3 ?_
  have h := si h
  subst h
  exact DoneS.ret Sees.refl rfl rfl
 intro k1 h
 refine sj ?_
 refine rk 1 (.k2 (.i 17 (eS 2 eFinding a1) .n)) ?_
 refine jo 18 (.len 0 17) (ok_len_m rfl) ?_
 refine jk 1 (.d (.k3 (.i 18 (vi (a1.length : Int)) (.i 19 (vi 0) .n)))) ?_
 refine q4 ?_
 refine ts (.k4 (.i 19 (vi 0) .n)) ?_
 refine TriE.loopN h (fun (v5 : Nat) => St.mk [(0, eS 6 eTask a0), (1, eS 2 eFinding a1), (17, eS 2 eFinding a1), (18, vi (a1.length : Int)), (19, vi v5)] []) rfl ?_
 clear h
 rintro back v5 h
 dsimp only [restore_CheckFindings_2_L1] at h
 refine sj ?_
 refine jo 20 (.bin .lss false 19 18) (n_lss (i := v5) (j := a1.length) rfl rfl) ?_
 refine jf (.d (.k4 (.k (.i 20 (vb (decide (v5 < a1.length))) .n)))) ?_
 refine q1 ?_
 refine tc h (fun c3 h => ?_) (fun c3 h => ?_)
 ·refine q2 ?_
  refine q7 ?_
  refine sj ?_
  refine rk 1 (.k4 (.k (.i 21 (vi v5) .n))) ?_
  refine jo 22 (.iaddr 2 17 19) (ok_iaddr_m (j := v5) rfl rfl rfl c3) ?_
  refine jo 23 (.load true 2 22) (ok_load_fm (v := .agg [vt ((ix a1 v5).Name), eS 1 vt ((ix a1 v5).Tasks)]) rfl c3 rfl) ?_
  refine jko 3 (.d2 (.k4 (.k (.i 7 (.ptr 0 0 0) (.i 6 (vi v5) .n))))) [some (.row 2 [.agg [vt ((ix a1 v5).Name), eS 1 vt ((ix a1 v5).Tasks)]])] ?_
  refine q7 ?_
  refine sj ?_
  refine rk 2 (.k4 (.k3 (.i 26 (vt ((ix a1 v5).Name)) .n))) ?_
  obtain ⟨y6, hy6, h⟩ := bs h
  refine jc 27 [26] (restore_isName_ok n ((ix a1 v5).Name) y6 hy6) ?_
  refine jk 2 (.d (.k4 (.k3 (.i 24 (vb (!y6)) .n)))) ?_
  refine tc h (fun c4 h => ?_) (fun c4 h => ?_)
  ·refine sk (.i 4 (vi 4) .n) ?_
   refine q3 ?_
   have h := si h
   subst h
   exact DoneS.ret (S' := ⟨[(4, vi 4)], []⟩) (sc [] (by decide) (by kernel_rfl) ObRen.nil rfl rfl) rfl rfl
  refine sj ?_
  refine rk 2 (.k4 (.k2 (.i 30 (eS 2 eFinding a1) (.i 31 (vi v5) .n)))) ?_
  obtain ⟨c5, h⟩ := ck h
  refine jo 32 (.slc 2 30 none (some 31) none) (ok_slc_hi (j := v5) rfl rfl rfl c5) ?_
  refine rk 1 (.d (.k4 (.k2 (.i 32 (eS 2 eFinding (List.take v5 a1)) (.i 33 (.fn (.func 95) [] [.ptr 0 0 0]) .n))))) ?_
  obtain ⟨y7, hy7, h⟩ := bs h
  refine jco (vb y7) 34 [32, 33] (slices_ContainsFunc_Finding_2_ok n (List.take v5 a1) ((ix a1 v5).Name) ((ix a1 v5).Tasks) y7 hy7) [0] rfl (.cons rfl .nil) (.cons rfl .nil) rfl ?_
  refine jk 1 (.d (.k4 (.k2 (.i 29 (vb y7) .n)))) ?_
  refine tc h (fun c6 h => ?_) (fun c6 h => ?_)
  ·refine sk (.i 4 (vi 5) .n) ?_
   refine q3 ?_
   have h := si h
   subst h
   exact DoneS.ret (S' := ⟨[(4, vi 5)], []⟩) (sc [] (by decide) (by kernel_rfl) ObRen.nil rfl rfl) rfl rfl
  refine sj ?_
  refine rk 2 (.k4 (.k2 (.i 37 (eS 1 vt ((ix a1 v5).Tasks)) .n))) ?_
  refine jo 38 (.len 0 37) (ok_len_m rfl) ?_
  refine jo 39 (.bin .gtr false 38 (ki 20)) (n_gtr (i := ((ix a1 v5).Tasks).length) (j := 20) rfl rfl) ?_
  refine jk 1 (.d2 (.k4 (.k2 (.i 35 (vb (decide (20 < (((ix a1 v5).Tasks).length)))) .n)))) ?_
  refine tc h (fun c7 h => ?_) (fun c7 h => ?_)
  ·refine sk (.i 4 (vi 8) .n) ?_
   refine q3 ?_
   have h := si h
   subst h
   exact DoneS.ret (S' := ⟨[(4, vi 8)], []⟩) (sc [] (by decide) (by kernel_rfl) ObRen.nil rfl rfl) rfl rfl
  refine q2 ?_
  refine sj ?_
  refine rk 3 (.k4 (.k (.i 40 (eS 6 eTask a0) (.i 42 (eS 1 vt ((ix a1 v5).Tasks)) .n)))) ?_
  obtain ⟨y8, hy8, h⟩ := bs h
  refine jc 43 [40, 42] (restore_list_known_ok n a0 ((ix a1 v5).Tasks) y8 hy8) ?_
  refine jk 1 (.d (.k4 (.k (.i 8 (vi y8) .n)))) ?_
  refine sk (.k4 (.k2 (.i 45 (vb (y8 != (0 : Int))) .n))) ?_
  refine tc h (fun c8 h => ?_) (fun c8 h => ?_)
  ·refine sk (.i 4 (vi y8) .n) ?_
   refine q3 ?_
   have h := si h
   subst h
   exact DoneS.ret (S' := ⟨[(4, vi y8)], []⟩) (sc [] (by decide) (by kernel_rfl) ObRen.nil rfl rfl) rfl rfl
  refine q2 ?_
  refine q6 ?_
  obtain ⟨c9, h⟩ := ck h
  refine jo 47 (.bin .add false 19 (ki 1)) (r_addn (i := v5) (j := 1) rfl rfl c9) ?_
  refine jk 1 (.d (.k4 (.i 19 (vi ((v5 + 1 : Nat) : Int)) .n))) ?_
  exact Vs.intro (sc [] (by decide) (by kernel_rfl) ObRen.nil rfl rfl) ⟨(v5 + 1), rfl, h⟩
 refine q5 ?_
 exact Vs.intro sy ⟨(), rfl, h⟩
set_option maxHeartbeats 1000000 in
theorem slices_Compact_string_ok (n : Nat) (a0 : List Str) (r : (List Str)) (h : slices_Compact_string n a0 = some r) : FnL Tryz.prog 104 [.own 0 0 a0.length] [some (.row 1 (List.map vt a0))] (eS 1 vt r) [none] := by
 dsimp only [slices_Compact_string] at h
 refine fob [2] Tryz.call104 Tryz.func104 rfl (.cons rfl .nil) ?_
 refine sk .a ?_
 refine q1 ?_
 refine sj ?_
 refine rk 2 (.k (.i 7 (vi (a0.length : Int)) .n)) ?_
 refine jo 8 (.bin .lss false 7 (ki 2)) (n_lss (i := a0.length) (j := 2) rfl rfl) ?_
 refine jf (.d (.k (.i 8 (vb (decide (a0.length < 2))) .n))) ?_
 refine tc h (fun c1 h => ?_) (fun c1 h => ?_)
 ·refine sk (.i 2 (.own 0 0 a0.length) .n) ?_
  refine q3 ?_
  have h := si h
  subst h
  exact DoneS.ret (S' := ⟨[(2, eS 1 vt a0)], [none]⟩) (Sees.trans (Sees.freeze 0 (fr' := [(2, eS 1 vt a0)]) (ob' := [none]) rfl (frz_row vt_frzE _) (.cons (frz_full rfl) .nil) rfl) Sees.refl) rfl rfl
 refine q2 ?_
 refine TriE.seqK h (fun (_ : Unit) => St.mk [(0, .own 0 0 a0.length)] [some (.row 1 (List.map vt a0))]) ?_ ?_
 ·rintro ⟨⟩ h
  refine sk (.i 2 (.own 0 0 a0.length) .n) ?_
  refine q3 ?_
  have h := si h
  subst h
  exact DoneS.ret (S' := ⟨[(2, eS 1 vt a0)], [none]⟩) (Sees.trans (Sees.freeze 0 (fr' := [(2, eS 1 vt a0)]) (ob' := [none]) rfl (frz_row vt_frzE _) (.cons (frz_full rfl) .nil) rfl) Sees.refl) rfl rfl
 intro k3 h
 refine sk (.k (.i 3 (vi 1) .n)) ?_
 refine q4 ?_
 refine ts (.k (.i 3 (vi 1) .n)) ?_
 refine TriE.loopN h (fun (v10 : Nat) => St.mk [(0, .own 0 0 a0.length), (3, vi v10)] [some (.row 1 (List.map vt a0))]) rfl ?_
 clear h
 rintro back v10 h
 dsimp only [slices_Compact_string_L2] at h
 refine q1 ?_
 refine sj ?_
 refine rk 3 (.k2 (.i 10 (vi v10) (.i 12 (vi (a0.length : Int)) .n))) ?_
 refine jo 13 (.bin .lss false 10 12) (n_lss (i := v10) (j := a0.length) rfl rfl) ?_
 refine jf (.d (.k2 (.i 13 (vb (decide (v10 < a0.length))) .n))) ?_
 refine tc h (fun c2 h => ?_) (fun c2 h => ?_)
 ·refine q2 ?_
  refine q7 ?_
  refine q1 ?_
  refine ts (.k2 .n) ?_
  refine TriE.draw (by kernel_rfl) ?_
  refine dk 2 (.i 17 (vi v10) (.i 16 (.own 0 0 a0.length) .a)) ?_
  refine dp 18 (.iaddr 1 16 17) (ok_iaddr_o0 (j := v10) rfl rfl rfl rfl c2) ?_
  refine dp 19 (.load false 1 18) (ok_load_pm (l := a0) (e := vt) (v := vt (ix a0 v10)) rfl rfl c2 rfl) ?_
  refine dk 2 (.i 21 (vi v10) (.i 20 (.own 0 0 a0.length) .a)) ?_
  obtain ⟨c3, h⟩ := ck h
  refine dp 22 (.bin .sub false 21 (ki 1)) (r_sub rfl rfl c3) ?_
  obtain ⟨c4, h⟩ := ck h
  refine dp 23 (.iaddr 1 20 22) (ok_iaddr_o0 (j := ((v10 : Int) - 1).toNat) rfl rfl rfl (inB_to c4) (inB_lt c4)) ?_
  obtain ⟨c5, h⟩ := ck h
  refine dp 24 (.load false 1 23) (ok_load_pm (l := a0) (e := vt) (v := vt (ix a0 (((v10 : Int) - 1).toNat))) rfl rfl c5 rfl) ?_
  refine dk 1 (.i 25 (vb ((ix a0 v10) == (ix a0 (((v10 : Int) - 1).toNat)))) .a) ?_
  refine dfi (.d4 (.d4 (.d2 (.k2 (.i 25 (vb ((ix a0 v10) == (ix a0 (((v10 : Int) - 1).toNat)))) .n))))) [0] (obRen_row vt_frz rfl .nil) ?_
  refine tc h (fun c6 h => ?_) (fun c6 h => ?_)
  ·refine sj ?_
   refine rk 2 (.k2 (.i 26 (.own 0 0 a0.length) (.i 27 (vi v10) .n))) ?_
   refine jo 28 (.slc 1 26 (some 27) none none) (ok_slco_lo0 (i := v10) rfl rfl rfl rfl c2) ?_
   refine jk 1 (.d (.k2 (.i 4 (.own 0 v10 (a0.length - v10)) .n))) ?_
   refine TriE.seqK h (fun (t : Nat × (List Str)) => match t with | (v18, v19) => St.mk [(0, .own 0 0 v19.length), (3, vi v18)] [some (.row 1 (List.map vt v19))]) ?_ ?_
   ·rintro ⟨v18, v19⟩ h
    refine sj ?_
    refine rk 2 (.k2 (.i 54 (.own 0 0 v19.length) (.i 55 (vi v18) .n))) ?_
    obtain ⟨c16, h⟩ := ck h
    refine jo 56 (.slc 1 54 (some 55) none none) (ok_slco_lo0 (i := v18) rfl rfl rfl rfl c16) ?_
    obtain ⟨c17, h⟩ := ck h
    obtain ⟨c18, h⟩ := ck h
    obtain ⟨c19, h⟩ := ck h
    refine RegJ.clrM (d := none) (k := 1) (e := vt) (l := v19) (x0 := ([] : Str)) (nn := 0) (off := v18) (len := v19.length - v18) (x := .t 56) (by kernel_rfl) rfl rfl rfl c17 c18 rfl ?_
    refine jp [(0, .own 0 0 v19.length), (3, vi v18)] ?_
    refine sj ?_
    refine rko 2 (.i 57 (.own 0 0 v19.length) (.i 58 (vi v18) .n)) [some (.row 1 (List.map vt (clrP v19 v18 (v19.length - v18) ([] : Str))))] ?_
    obtain ⟨c20, h⟩ := ck h
    refine jo 59 (.slc 1 57 none (some 58) none) (ok_slco_hi (j := v18) rfl rfl rfl rfl c20) ?_
    refine jk 1 (.i 2 (.own 0 0 v18) .n) ?_
    refine q3 ?_
    have h := si h
    subst h
    exact DoneS.ret (S' := ⟨[(2, eS 1 vt (List.take v18 (clrP v19 v18 (v19.length - v18) ([] : Str))))], [none]⟩) (Sees.trans (Sees.freeze 0 (fr' := [(2, eS 1 vt (List.take v18 (clrP v19 v18 (v19.length - v18) ([] : Str))))]) (ob' := [none]) rfl (frz_row vt_frzE _) (.cons (frz_part c19) .nil) rfl) Sees.refl) rfl rfl
   intro k2 h
   refine sk (.k3 (.i 5 (vi 1) .n)) ?_
   refine q4 ?_
   refine ts (.k3 (.i 5 (vi 1) .n)) ?_
   refine TriE.loopN h (fun (t : Nat × Nat × (List Str)) => match t with | (v13, v14, v15) => St.mk [(0, .own 0 0 v15.length), (3, vi v13), (4, .own 0 v10 (a0.length - v10)), (5, vi v14)] [some (.row 1 (List.map vt v15))]) rfl ?_
   clear h
   rintro back ⟨v13, v14, v15⟩ h
   dsimp only [slices_Compact_string_L1] at h
   refine q1 ?_
   refine sj ?_
   refine rk 3 (.k4 (.i 29 (vi v14) (.i 31 (vi ((a0.length - v10 : Nat) : Int)) .n))) ?_
   refine jo 32 (.bin .lss false 29 31) (n_lss (i := v14) (j := a0.length - v10) rfl rfl) ?_
   refine jf (.d (.k4 (.i 32 (vb (decide (v14 < (a0.length - v10)))) .n))) ?_
   refine tc h (fun c7 h => ?_) (fun c7 h => ?_)
   ·refine q2 ?_
    refine TriE.seqK h (fun (t : Nat × (List Str)) => match t with | (v16, v17) => St.mk [(0, .own 0 0 v17.length), (4, .own 0 v10 (a0.length - v10)), (5, vi v14), (3, vi v16)] [some (.row 1 (List.map vt v17))]) ?_ ?_
    ·rintro ⟨v16, v17⟩ h
     refine q6 ?_
     refine rk 1 (.k2 (.d (.k (.i 33 (vi v14) .n)))) ?_
     obtain ⟨c15, h⟩ := ck h
     refine jo 34 (.bin .add false 33 (ki 1)) (r_addn (i := v14) (j := 1) rfl rfl c15) ?_
     refine jk 1 (.d (.k3 (.i 5 (vi ((v14 + 1 : Nat) : Int)) .n))) ?_
     exact Vs.intro sy ⟨(v16, v14 + 1, v17), rfl, h⟩
    intro k1 h
    refine q4 ?_
    refine q1 ?_
    refine ts (.k4 .n) ?_
    refine TriE.draw (by kernel_rfl) ?_
    refine dk 2 (.i 36 (vi v14) (.i 35 (.own 0 v10 (a0.length - v10)) .a)) ?_
    refine dp 37 (.iaddr 1 35 36) (ok_iaddr_o (j := v14) rfl rfl rfl rfl c7) ?_
    obtain ⟨c8, h⟩ := ck h
    refine dp 38 (.load false 1 37) (ok_load_pm (l := v15) (e := vt) (v := vt (ix v15 (v10 + v14))) rfl rfl c8 rfl) ?_
    refine dk 2 (.i 40 (vi v14) (.i 39 (.own 0 v10 (a0.length - v10)) .a)) ?_
    obtain ⟨c9, h⟩ := ck h
    refine dp 41 (.bin .sub false 40 (ki 1)) (r_sub rfl rfl c9) ?_
    obtain ⟨c10, h⟩ := ck h
    refine dp 42 (.iaddr 1 39 41) (ok_iaddr_o (j := ((v14 : Int) - 1).toNat) rfl rfl rfl (inB_to c10) (inB_lt c10)) ?_
    obtain ⟨c11, h⟩ := ck h
    refine dp 43 (.load false 1 42) (ok_load_pm (l := v15) (e := vt) (v := vt (ix v15 (v10 + (((v14 : Int) - 1).toNat)))) rfl rfl c11 rfl) ?_
    refine dk 1 (.i 44 (vb (!((ix v15 (v10 + v14)) == (ix v15 (v10 + (((v14 : Int) - 1).toNat)))))) .a) ?_
    refine dfi (.d4 (.d4 (.d2 (.k4 (.i 44 (vb (!((ix v15 (v10 + v14)) == (ix v15 (v10 + (((v14 : Int) - 1).toNat)))))) .n))))) [0] (obRen_row vt_frz rfl .nil) ?_
    refine tc h (fun c12 h => ?_) (fun c12 h => ?_)
    ·refine sj ?_
     refine rk 4 (.k4 (.i 45 (.own 0 0 v15.length) (.i 46 (vi v13) (.i 47 (.own 0 v10 (a0.length - v10)) (.i 48 (vi v14) .n))))) ?_
     refine jo 49 (.iaddr 1 47 48) (ok_iaddr_o (j := v14) rfl rfl rfl rfl c7) ?_
     refine jo 50 (.load false 1 49) (ok_load_pm (l := v15) (e := vt) (v := vt (ix v15 (v10 + v14))) rfl rfl c8 rfl) ?_
     obtain ⟨c13, h⟩ := ck h
     refine jo 51 (.iaddr 1 45 46) (ok_iaddr_o0 (j := v13) rfl rfl rfl rfl c13) ?_
     refine jn (.store 1 51 50) _ (ok_store_m (l := v15) (e := vt) (x' := (ix v15 (v10 + v14))) (u := vt (ix v15 (v10 + v14))) rfl rfl rfl c13 rfl rfl) rfl rfl ?_
     refine jf (.d3 (.k4 .n)) ?_
     refine q6 ?_
     refine rk 1 (.k (.d (.k2 (.i 52 (vi v13) .n)))) ?_
     obtain ⟨c14, h⟩ := ck h
     refine jo 53 (.bin .add false 52 (ki 1)) (r_addn (i := v13) (j := 1) rfl rfl c14) ?_
     refine jk 1 (.d (.k3 (.i 3 (vi ((v13 + 1 : Nat) : Int)) .n))) ?_
     exact Vs.intro (Sees.less (.cons (by simp only [List.length_set]; rfl) (.cons rfl (.cons rfl (.cons rfl .nil))))) ⟨(v13 + 1, (List.set v15 v13 (ix v15 (v10 + v14)))), rfl, h⟩
    refine q2 ?_
    exact Vs.intro sy ⟨(v13, v15), rfl, h⟩
   refine q5 ?_
   exact Vs.intro sy ⟨(v13, v15), rfl, h⟩
  refine q2 ?_
  refine q6 ?_
  refine rk 1 (.k (.i 14 (vi v10) .n)) ?_
  obtain ⟨c21, h⟩ := ck h
  refine jo 15 (.bin .add false 14 (ki 1)) (r_addn (i := v10) (j := 1) rfl rfl c21) ?_
  refine jk 1 (.d (.k (.i 3 (vi ((v10 + 1 : Nat) : Int)) .n))) ?_
  exact Vs.intro sy ⟨(v10 + 1), rfl, h⟩
 refine q5 ?_
 exact Vs.intro sy ⟨(), rfl, h⟩
set_option maxHeartbeats 1000000 in
theorem restore_Estimate_ok (n : Nat) (a0 : List Task) (a1 : List Stocked) (a2 : List Finding) (r : Int × (List Str) × Int) (h : restore_Estimate n a0 a1 a2 = some r) : FnL Tryz.prog 36 [eS 6 eTask a0, eS 3 eStocked a1, eS 2 eFinding a2] [] (.tup [eS 1 vt r.2.1, vi r.2.2, vi r.1]) [] := by
 dsimp only [restore_Estimate] at h
 refine fo [6, 7, 8] Tryz.call36 Tryz.func36 rfl ?_
 refine sk .a ?_
 refine q1 ?_
 refine sj ?_
 refine rk 2 (.k3 (.i 13 (eS 6 eTask a0) (.i 14 (eS 2 eFinding a2) .n))) ?_
 obtain ⟨y1, hy1, h⟩ := bs h
 refine jc 15 [13, 14] (restore_CheckFindings_2_ok n a0 a2 y1 hy1) ?_
 refine jk 1 (.d (.k3 (.i 9 (vi y1) .n))) ?_
 refine sk (.k4 (.i 17 (vb (y1 != (0 : Int))) .n)) ?_
 refine tc h (fun c1 h => ?_) (fun c1 h => ?_)
 ·refine sk (.i 6 .emp (.i 7 (vi 0) (.i 8 (vi y1) .n))) ?_
  refine q3 ?_
  have h := si h
  subst h
  exact DoneS.ret (S' := ⟨[(6, eS 1 vt ([] : List Str)), (7, vi 0), (8, vi y1)], []⟩) (Sees.trans (Sees.vco (fr' := [(6, eS 1 vt ([] : List Str)), (7, vi 0), (8, vi y1)]) (.cons .sl (.cons .same (.cons .same .nil)))) sy) rfl rfl
 refine q2 ?_
 refine sk (.k3 (.i 10 .emp .n)) ?_
 refine TriE.seqK h (fun (v4 : (List Str)) => St.mk [(0, eS 6 eTask a0), (1, eS 3 eStocked a1), (10, .own 0 0 v4.length)] [some (.row 1 (List.map vt v4))]) ?_ ?_
 ·rintro v4 h
  refine sj ?_
  refine rk 1 (.k3 (.i 30 (.own 0 0 v4.length) .n)) ?_
  obtain ⟨y5, hy5, h⟩ := bs h
  refine jco (.tup []) 31 [30] (slices_Sort_string_ok n v4 y5 hy5) [0] rfl (.same (row_ren vt_frz _ _ _) .nil) (.same (row_ren vt_frz _ _ _) .nil) rfl ?_
  obtain ⟨c5, h⟩ := ck h
  refine RegJ.sees (S' := ⟨[(0, eS 6 eTask a0), (1, eS 3 eStocked a1), (10, .own 0 0 y5.length), (30, .own 0 0 y5.length), (31, .tup [])], [some (.row 1 (List.map vt y5))]⟩) (Sees.cov (Cov.mk2 (rs := [0]) (by decide) rfl rfl (.cons (.inl rfl) (.cons (.inl rfl) (.cons (.inl (by rw [show v4.length = y5.length from of_decide_eq_true c5]; rfl)) (.cons (.inl (by rw [show v4.length = y5.length from of_decide_eq_true c5]; rfl)) (.cons (.inl rfl) .nil))))) (obRen_row vt_frz rfl .nil))) ?_
  refine jf (.k3 .n) ?_
  refine sj ?_
  refine rk 3 (.i 32 (eS 6 eTask a0) (.i 33 (eS 3 eStocked a1) (.i 34 (.own 0 0 y5.length) .n))) ?_
  obtain ⟨y6, hy6, h⟩ := bs h
  refine jco (eS 1 vt y6) 35 [34] (slices_Compact_string_ok n y5 y6 hy6) [0] rfl (.same (row_ren vt_frz _ _ _) .nil) (.cons rfl .nil) rfl ?_
  obtain ⟨y7, hy7, h⟩ := bs h
  refine jc 36 [32, 33, 35] (restore_Cheapest_ok n a0 a1 y6 y7 hy7) ?_
  refine jk 6 (.i 6 (eS 1 vt y7.2.1) (.i 7 (vi y7.2.2) (.i 8 (vi y7.1) .n))) ?_
  refine q3 ?_
  have h := si h
  subst h
  exact DoneS.ret (S' := ⟨[(6, eS 1 vt y7.2.1), (7, vi y7.2.2), (8, vi y7.1)], []⟩) (sc [] (by decide) (by kernel_rfl) ObRen.nil rfl rfl) rfl rfl
 intro k1 h
 refine sj ?_
 refine rk 1 (.k2 (.d (.k (.i 19 (eS 2 eFinding a2) .n)))) ?_
 refine jo 20 (.len 0 19) (ok_len_m rfl) ?_
 refine jk 1 (.d (.k4 (.i 20 (vi (a2.length : Int)) (.i 21 (vi 0) .n)))) ?_
 refine q4 ?_
 refine TriE.sees (S' := ⟨[(0, eS 6 eTask a0), (1, eS 3 eStocked a1), (10, .own 0 0 ([] : List Str).length), (19, eS 2 eFinding a2), (20, vi (a2.length : Int)), (21, vi 0)], [some (.row 1 (List.map vt ([] : List Str)))]⟩) (Sees.trans (Sees.co (fr' := [(0, eS 6 eTask a0), (1, eS 3 eStocked a1), (10, .own 0 0 0), (19, eS 2 eFinding a2), (20, vi (a2.length : Int)), (21, vi 0)]) (ob' := []) (.cons .same (.cons .same (.cons .own (.cons .same (.cons .same (.cons .same .nil)))))) ObCo.nil 1) sy) ?_
 refine TriE.loopN h (fun (t : (List Str) × Nat) => match t with | (v2, v3) => St.mk [(0, eS 6 eTask a0), (1, eS 3 eStocked a1), (10, .own 0 0 v2.length), (19, eS 2 eFinding a2), (20, vi (a2.length : Int)), (21, vi v3)] [some (.row 1 (List.map vt v2))]) rfl ?_
 clear h
 rintro back ⟨v2, v3⟩ h
 dsimp only [restore_Estimate_L1] at h
 refine sj ?_
 refine jo 22 (.bin .lss false 21 20) (n_lss (i := v3) (j := a2.length) rfl rfl) ?_
 refine jf (.d (.k4 (.k2 (.i 22 (vb (decide (v3 < a2.length))) .n)))) ?_
 refine q1 ?_
 refine tc h (fun c2 h => ?_) (fun c2 h => ?_)
 ·refine q2 ?_
  refine q7 ?_
  refine sj ?_
  refine jo 23 (.iaddr 2 19 21) (ok_iaddr_m (j := v3) rfl rfl rfl c2) ?_
  refine jo 24 (.load true 2 23) (ok_load_fm (v := .agg [vt ((ix a2 v3).Name), eS 1 vt ((ix a2 v3).Tasks)]) rfl c2 rfl) ?_
  refine jko 2 (.d2 (.k4 (.k2 (.i 12 (.ptr 1 0 0) .n)))) [some (.row 1 (List.map vt v2)), some (.row 2 [.agg [vt ((ix a2 v3).Name), eS 1 vt ((ix a2 v3).Tasks)]])] ?_
  refine q6 ?_
  refine rk 3 (.k2 (.d (.k3 (.i 25 (.own 0 0 v2.length) (.i 27 (eS 1 vt ((ix a2 v3).Tasks)) .n))))) ?_
  obtain ⟨c3, h⟩ := ck h
  refine jx 28 (.app 1 16 25 27) _ (ok_app_own (l := v2) (l2 := (ix a2 v3).Tasks) (e := vt) (u := eS 1 vt ((ix a2 v3).Tasks)) rfl rfl rfl rfl els_sl c3) rfl rfl ?_
  refine jk 1 (.d (.k4 (.k (.i 10 (.own 2 0 ((v2 ++ (ix a2 v3).Tasks).length)) .n)))) ?_
  refine q6 ?_
  obtain ⟨c4, h⟩ := ck h
  refine jo 29 (.bin .add false 21 (ki 1)) (r_addn (i := v3) (j := 1) rfl rfl c4) ?_
  refine jk 1 (.d (.k4 (.d (.k (.i 21 (vi ((v3 + 1 : Nat) : Int)) .n))))) ?_
  exact Vs.intro (sc [2] (by decide) (by kernel_rfl) (obRen_row vt_frz rfl .nil) rfl rfl) ⟨((v2 ++ (ix a2 v3).Tasks), v3 + 1), rfl, h⟩
 refine q5 ?_
 exact Vs.intro sy ⟨v2, rfl, h⟩
theorem agrafferef08_Wanted_ok (n : Nat) (a0 : List Finding) (r : (List Str)) (h : agrafferef08_Wanted n a0 = some r) : FnL Tryz.prog 38 [eS 2 eFinding a0] [] (eS 1 vt r) [] := by
 dsimp only [agrafferef08_Wanted] at h
 refine fo [2] Tryz.call38 Tryz.func38 rfl ?_
 refine sk .a ?_
 refine sk (.k (.i 3 .emp .n)) ?_
 refine TriE.seqK h (fun (v13 : (List Str)) => St.mk [(3, eS 1 vt v13)] []) ?_ ?_
 ·rintro v13 h
  refine sk (.i 2 (eS 1 vt v13) .n) ?_
  refine q3 ?_
  have h := si h
  subst h
  exact DoneS.ret Sees.refl rfl rfl
 intro k2 h
 refine sk (.k2 (.i 4 (vi 0) .n)) ?_
 refine q4 ?_
 refine TriE.sees (S' := ⟨[(0, eS 2 eFinding a0), (3, eS 1 vt ([] : List Str)), (4, vi 0)], []⟩) (Sees.trans (Sees.vco (fr' := [(0, eS 2 eFinding a0), (3, eS 1 vt ([] : List Str)), (4, vi 0)]) (.cons .same (.cons .sl (.cons .same .nil)))) sy) ?_
 refine TriE.loopN h (fun (t : (List Str) × Nat) => match t with | (v6, v7) => St.mk [(0, eS 2 eFinding a0), (3, eS 1 vt v6), (4, vi v7)] []) rfl ?_
 clear h
 rintro back ⟨v6, v7⟩ h
 dsimp only [agrafferef08_Wanted_L2] at h
 refine q1 ?_
 refine sj ?_
 refine rk 2 (.k3 (.i 6 (vi v7) (.i 7 (eS 2 eFinding a0) .n))) ?_
 refine jo 8 (.len 0 7) (ok_len_m rfl) ?_
 refine jo 9 (.bin .lss false 6 8) (n_lss (i := v7) (j := a0.length) rfl rfl) ?_
 refine jf (.d2 (.k3 (.i 9 (vb (decide (v7 < a0.length))) .n))) ?_
 refine tc h (fun c1 h => ?_) (fun c1 h => ?_)
 ·refine q2 ?_
  refine TriE.seqK h (fun (v12 : (List Str)) => St.mk [(0, eS 2 eFinding a0), (3, eS 1 vt v12), (4, vi v7)] []) ?_ ?_
  ·rintro v12 h
   refine q6 ?_
   refine rk 1 (.k2 (.i 10 (vi v7) .n)) ?_
   obtain ⟨c5, h⟩ := ck h
   refine jo 11 (.bin .add false 10 (ki 1)) (r_addn (i := v7) (j := 1) rfl rfl c5) ?_
   refine jk 1 (.d (.k2 (.i 4 (vi ((v7 + 1 : Nat) : Int)) .n))) ?_
   exact Vs.intro sy ⟨(v12, v7 + 1), rfl, h⟩
  intro k1 h
  refine q4 ?_
  refine sk (.k3 (.i 5 (vi 0) .n)) ?_
  refine q4 ?_
  refine ts (.k3 (.i 5 (vi 0) .n)) ?_
  refine TriE.loopN h (fun (t : (List Str) × Nat) => match t with | (v9, v10) => St.mk [(0, eS 2 eFinding a0), (3, eS 1 vt v9), (4, vi v7), (5, vi v10)] []) rfl ?_
  clear h
  rintro back ⟨v9, v10⟩ h
  dsimp only [agrafferef08_Wanted_L1] at h
  refine q1 ?_
  refine sj ?_
  refine rk 3 (.k4 (.i 12 (vi v10) (.i 13 (eS 2 eFinding a0) (.i 14 (vi v7) .n)))) ?_
  refine jo 15 (.iaddr 2 13 14) (ok_iaddr_m (j := v7) rfl rfl rfl c1) ?_
  refine rk 1 (.d (.k4 (.k (.i 16 (.fptr 2 (List.map eFinding a0) v7 1) .n)))) ?_
  refine jo 17 (.load false 1 16) (ok_load_fm (v := eS 1 vt ((ix a0 v7).Tasks)) rfl c1 rfl) ?_
  refine jo 18 (.len 0 17) (ok_len_m rfl) ?_
  refine jo 19 (.bin .lss false 12 18) (n_lss (i := v10) (j := ((ix a0 v7).Tasks).length) rfl rfl) ?_
  refine jf (.d3 (.k4 (.i 19 (vb (decide (v10 < (((ix a0 v7).Tasks).length)))) .n))) ?_
  refine tc h (fun c2 h => ?_) (fun c2 h => ?_)
  ·refine q2 ?_
   refine q7 ?_
   refine q6 ?_
   refine rk 3 (.k (.d (.k2 (.i 22 (eS 1 vt v9) (.i 23 (eS 2 eFinding a0) (.i 24 (vi v7) .n)))))) ?_
   refine jo 25 (.iaddr 2 23 24) (ok_iaddr_m (j := v7) rfl rfl rfl c1) ?_
   refine rk 1 (.d (.k4 (.i 26 (.fptr 2 (List.map eFinding a0) v7 1) .n))) ?_
   refine jo 27 (.load false 1 26) (ok_load_fm (v := eS 1 vt ((ix a0 v7).Tasks)) rfl c1 rfl) ?_
   refine rk 1 (.d (.k4 (.i 27 (eS 1 vt ((ix a0 v7).Tasks)) (.i 28 (vi v10) .n)))) ?_
   obtain ⟨c3, h⟩ := ck h
   refine jo 29 (.iaddr 1 27 28) (ok_iaddr_m (j := v10) rfl rfl rfl c3) ?_
   refine jo 30 (.load false 1 29) (ok_load_fm (v := vt (ix ((ix a0 v7).Tasks) v10)) rfl c3 rfl) ?_
   obtain ⟨y11, hy11, h⟩ := bs h
   refine jc 31 [22, 30] (agrafferef08_Put_ok n v9 (ix ((ix a0 v7).Tasks) v10) y11 hy11) ?_
   refine jk 1 (.d3 (.k3 (.i 3 (eS 1 vt y11) .n))) ?_
   refine q6 ?_
   refine rk 1 (.k2 (.d (.k (.i 20 (vi v10) .n)))) ?_
   obtain ⟨c4, h⟩ := ck h
   refine jo 21 (.bin .add false 20 (ki 1)) (r_addn (i := v10) (j := 1) rfl rfl c4) ?_
   refine jk 1 (.d (.k3 (.i 5 (vi ((v10 + 1 : Nat) : Int)) .n))) ?_
   exact Vs.intro sy ⟨(y11, v10 + 1), rfl, h⟩
  refine q5 ?_
  exact Vs.intro sy ⟨v9, rfl, h⟩
 refine q5 ?_
 exact Vs.intro sy ⟨v6, rfl, h⟩
set_option maxHeartbeats 1000000 in
theorem agrafferef08_CheckFindings_2_ok (n : Nat) (a0 : List Task) (a1 : List Finding) (r : Int) (h : agrafferef08_CheckFindings_2 n a0 a1 = some r) : FnL Tryz.prog 26 [eS 6 eTask a0, .own 0 0 a1.length] [some (.row 2 (List.map eFinding a1))] (vi r) [some (.row 2 (List.map eFinding a1))] := by
 dsimp only [agrafferef08_CheckFindings_2] at h
 refine fob [4] Tryz.call26 Tryz.func26 rfl (.cons rfl .nil) ?_
 refine sk .a ?_
 refine q1 ?_
 refine sj ?_
 refine rk 1 (.k2 (.i 9 (eS 6 eTask a0) .n)) ?_
 obtain ⟨y1, hy1, h⟩ := bs h
 refine jc 10 [9] (agrafferef08_CheckTasks_ok n a0 y1 hy1) ?_
 refine jk 1 (.d (.k2 (.i 5 (vi y1) .n))) ?_
 refine sk (.k3 (.i 12 (vb (y1 != (0 : Int))) .n)) ?_
 refine tc h (fun c1 h => ?_) (fun c1 h => ?_)
 ·refine sk (.i 4 (vi y1) .n) ?_
  refine q3 ?_
  have h := si h
  subst h
  exact DoneS.ret Sees.refl rfl rfl
 refine q2 ?_
 refine q1 ?_
 refine sj ?_
 refine rk 2 (.k2 (.i 15 (vi (a1.length : Int)) .n)) ?_
 refine jo 16 (.bin .gtr false 15 (ki 40)) (n_gtr (i := a1.length) (j := 40) rfl rfl) ?_
 refine jf (.d (.k2 (.i 16 (vb (decide (40 < a1.length))) .n))) ?_
 refine tc h (fun c2 h => ?_) (fun c2 h => ?_)
 ·refine sk (.i 4 (vi 8) .n) ?_
  refine q3 ?_
  have h := si h
  subst h
  exact DoneS.ret Sees.refl rfl rfl
 refine q2 ?_
 refine sk (.k2 (.i 6 .emp .n)) ?_
 refine TriE.seqK h (fun (_ : Unit) => St.mk [] [some (.row 2 (List.map eFinding a1))]) ?_ ?_
 ·rintro ⟨⟩ h
  refine sk (.i 4 (vi 0) .n) ?_
  refine q3 ?_
  have h := si h
  subst h
  exact DoneS.ret Sees.refl rfl rfl
 intro k1 h
 refine sk (.k3 (.i 7 (vi 0) .n)) ?_
 refine q4 ?_
 refine TriE.sees (S' := ⟨[(0, eS 6 eTask a0), (1, .own 0 0 a1.length), (6, .own 1 0 ([] : List Str).length), (7, vi 0)], [some (.row 2 (List.map eFinding a1)), some (.row 1 (List.map vt ([] : List Str)))]⟩) (Sees.trans (Sees.co (fr' := [(0, eS 6 eTask a0), (1, .own 0 0 a1.length), (6, .own 1 0 0), (7, vi 0)]) (ob' := [some (.row 2 (List.map eFinding a1))]) (.cons .same (.cons .same (.cons .own (.cons .same .nil)))) (.same .nil) 1) sy) ?_
 refine TriE.loopN h (fun (t : (List Str) × Nat) => match t with | (v5, v6) => St.mk [(0, eS 6 eTask a0), (1, .own 0 0 a1.length), (6, .own 1 0 v5.length), (7, vi v6)] [some (.row 2 (List.map eFinding a1)), some (.row 1 (List.map vt v5))]) rfl ?_
 clear h
 rintro back ⟨v5, v6⟩ h
 dsimp only [agrafferef08_CheckFindings_2_L1] at h
 refine q1 ?_
 refine sj ?_
 refine rk 3 (.k4 (.i 17 (vi v6) (.i 19 (vi (a1.length : Int)) .n))) ?_
 refine jo 20 (.bin .lss false 17 19) (n_lss (i := v6) (j := a1.length) rfl rfl) ?_
 refine jf (.d (.k4 (.i 20 (vb (decide (v6 < a1.length))) .n))) ?_
 refine tc h (fun c3 h => ?_) (fun c3 h => ?_)
 ·refine q2 ?_
  refine q7 ?_
  refine q1 ?_
  refine sj ?_
  refine rk 2 (.k4 (.i 23 (.own 0 0 a1.length) (.i 24 (vi v6) .n))) ?_
  refine jo 25 (.iaddr 2 23 24) (ok_iaddr_o0 (j := v6) rfl rfl rfl rfl c3) ?_
  refine rk 1 (.d (.k4 (.i 26 (.ptr 0 v6 0) .n))) ?_
  refine jo 27 (.load false 1 26) (ok_load_pm (l := a1) (e := eFinding) (v := vt ((ix a1 v6).Name)) rfl rfl c3 rfl) ?_
  obtain ⟨y7, hy7, h⟩ := bs h
  refine jc 28 [27] (agraffebase_IsName_ok n ((ix a1 v6).Name) y7 hy7) ?_
  refine jk 1 (.d2 (.k4 (.i 29 (vb (!y7)) .n))) ?_
  refine tc h (fun c4 h => ?_) (fun c4 h => ?_)
  ·refine sk (.i 4 (vi 4) .n) ?_
   refine q3 ?_
   have h := si h
   subst h
   exact DoneS.ret (S' := ⟨[(4, vi 4)], [some (.row 2 (List.map eFinding a1))]⟩) (sc [0] (by decide) (by kernel_rfl) (obRen_row eFinding_frz rfl .nil) rfl rfl) rfl rfl
  refine q2 ?_
  refine q1 ?_
  refine sj ?_
  refine rk 3 (.k4 (.i 30 (.own 1 0 v5.length) (.i 31 (.own 0 0 a1.length) (.i 32 (vi v6) .n)))) ?_
  refine jo 33 (.iaddr 2 31 32) (ok_iaddr_o0 (j := v6) rfl rfl rfl rfl c3) ?_
  refine rk 1 (.d (.k4 (.k (.i 34 (.ptr 0 v6 0) .n)))) ?_
  refine jo 35 (.load false 1 34) (ok_load_pm (l := a1) (e := eFinding) (v := vt ((ix a1 v6).Name)) rfl rfl c3 rfl) ?_
  obtain ⟨y8, hy8, h⟩ := bs h
  refine jco (vb y8) 36 [30, 35] (agraffebase_HasText_2_ok n v5 ((ix a1 v6).Name) y8 hy8) [1] rfl (.same (row_ren vt_frz _ _ _) .nil) (.same (row_ren vt_frz _ _ _) .nil) rfl ?_
  refine jf (.d2 (.k4 (.i 36 (vb y8) .n))) ?_
  refine tc h (fun c5 h => ?_) (fun c5 h => ?_)
  ·refine sk (.i 4 (vi 5) .n) ?_
   refine q3 ?_
   have h := si h
   subst h
   exact DoneS.ret (S' := ⟨[(4, vi 5)], [some (.row 2 (List.map eFinding a1))]⟩) (sc [0] (by decide) (by kernel_rfl) (obRen_row eFinding_frz rfl .nil) rfl rfl) rfl rfl
  refine q2 ?_
  refine sj ?_
  refine rk 3 (.k2 (.d (.k (.i 37 (.own 1 0 v5.length) (.i 38 (.own 0 0 a1.length) (.i 39 (vi v6) .n)))))) ?_
  refine jo 40 (.iaddr 2 38 39) (ok_iaddr_o0 (j := v6) rfl rfl rfl rfl c3) ?_
  refine rk 1 (.d (.k4 (.i 41 (.ptr 0 v6 0) .n))) ?_
  refine jo 42 (.load false 1 41) (ok_load_pm (l := a1) (e := eFinding) (v := vt ((ix a1 v6).Name)) rfl rfl c3 rfl) ?_
  refine rko 1 (.d (.k4 (.i 43 (.own 2 0 1) .n))) [some (.row 2 (List.map eFinding a1)), some (.row 1 (List.map vt v5)), some (.row 1 [vt ((ix a1 v6).Name)])] ?_
  obtain ⟨c6, h⟩ := ck h
  refine jx 44 (.app 1 16 37 43) _ (ok_app_own (l := v5) (l2 := ([(ix a1 v6).Name] : List Str)) (e := vt) (u := .own 2 0 1) rfl rfl rfl rfl rfl c6) rfl rfl ?_
  refine jk 1 (.d (.k3 (.i 6 (.own 3 0 ((v5 ++ ([(ix a1 v6).Name] : List Str)).length)) .n))) ?_
  refine q1 ?_
  refine sj ?_
  refine rk 2 (.k4 (.i 45 (.own 0 0 a1.length) (.i 46 (vi v6) .n))) ?_
  refine jo 47 (.iaddr 2 45 46) (ok_iaddr_o0 (j := v6) rfl rfl rfl rfl c3) ?_
  refine rk 1 (.d (.k4 (.i 48 (.ptr 0 v6 1) .n))) ?_
  refine jo 49 (.load false 1 48) (ok_load_pm (l := a1) (e := eFinding) (v := eS 1 vt ((ix a1 v6).Tasks)) rfl rfl c3 rfl) ?_
  refine jo 50 (.len 0 49) (ok_len_m rfl) ?_
  refine jo 51 (.bin .gtr false 50 (ki 20)) (n_gtr (i := ((ix a1 v6).Tasks).length) (j := 20) rfl rfl) ?_
  refine jf (.d3 (.k4 (.i 51 (vb (decide (20 < (((ix a1 v6).Tasks).length)))) .n))) ?_
  refine tc h (fun c7 h => ?_) (fun c7 h => ?_)
  ·refine sk (.i 4 (vi 8) .n) ?_
   refine q3 ?_
   have h := si h
   subst h
   exact DoneS.ret (S' := ⟨[(4, vi 8)], [some (.row 2 (List.map eFinding a1))]⟩) (sc [0] (by decide) (by kernel_rfl) (obRen_row eFinding_frz rfl .nil) rfl rfl) rfl rfl
  refine q2 ?_
  refine sj ?_
  refine rk 3 (.k4 (.i 52 (eS 6 eTask a0) (.i 53 (.own 0 0 a1.length) (.i 54 (vi v6) .n)))) ?_
  refine jo 55 (.iaddr 2 53 54) (ok_iaddr_o0 (j := v6) rfl rfl rfl rfl c3) ?_
  refine rk 1 (.d (.k4 (.k (.i 56 (.ptr 0 v6 1) .n)))) ?_
  refine jo 57 (.load false 1 56) (ok_load_pm (l := a1) (e := eFinding) (v := eS 1 vt ((ix a1 v6).Tasks)) rfl rfl c3 rfl) ?_
  obtain ⟨y9, hy9, h⟩ := bs h
  refine jc 58 [52, 57] (agrafferef08_tasks_ok n a0 ((ix a1 v6).Tasks) y9 hy9) ?_
  refine jk 1 (.d2 (.k4 (.i 8 (vi y9) .n))) ?_
  refine sk (.k4 (.k (.i 60 (vb (y9 != (0 : Int))) .n))) ?_
  refine tc h (fun c8 h => ?_) (fun c8 h => ?_)
  ·refine sk (.i 4 (vi y9) .n) ?_
   refine q3 ?_
   have h := si h
   subst h
   exact DoneS.ret (S' := ⟨[(4, vi y9)], [some (.row 2 (List.map eFinding a1))]⟩) (sc [0] (by decide) (by kernel_rfl) (obRen_row eFinding_frz rfl .nil) rfl rfl) rfl rfl
  refine q2 ?_
  refine q6 ?_
  refine rk 1 (.k2 (.d (.k (.i 21 (vi v6) .n)))) ?_
  obtain ⟨c9, h⟩ := ck h
  refine jo 22 (.bin .add false 21 (ki 1)) (r_addn (i := v6) (j := 1) rfl rfl c9) ?_
  refine jk 1 (.d (.k3 (.i 7 (vi ((v6 + 1 : Nat) : Int)) .n))) ?_
  exact Vs.intro (sc [0, 3] (by decide) (by kernel_rfl) (obRen_row eFinding_frz rfl (obRen_row vt_frz rfl .nil)) rfl rfl) ⟨((v5 ++ ([(ix a1 v6).Name] : List Str)), v6 + 1), rfl, h⟩
 refine q5 ?_
 exact Vs.intro (sc [0] (by decide) (by kernel_rfl) (obRen_row eFinding_frz rfl .nil) rfl rfl) ⟨(), rfl, h⟩
set_option maxHeartbeats 1000000 in
theorem agraffelaw08_RestoreEstimates_ok (n : Nat) (a0 : List Task) (a1 : List Stocked) (a2 : List Finding) (r : Bool) (h : agraffelaw08_RestoreEstimates n a0 a1 a2 = some r) : FnL Tryz.prog 5 [eS 6 eTask a0, eS 3 eStocked a1, eS 2 eFinding a2] [] (vb r) [] := by
  dsimp only [agraffelaw08_RestoreEstimates] at h
  refine FnL.ofS (ts := [6]) Tryz.call5 Tryz.func5 rfl rfl (Nat.le_of_ble_eq_true rfl) (Nat.le_of_ble_eq_true rfl) (fun j h => absurd h (Nat.not_lt_zero j)) ?_
  show TriE _ _ _ _ _ (St.mk [(0, eS 6 eTask a0), (1, eS 3 eStocked a1), (2, eS 2 eFinding a2)] []) _
  refine TriE.seq ?_
  refine TriE.run [(0, eS 6 eTask a0), (1, eS 3 eStocked a1), (2, eS 2 eFinding a2)] [] (by kernel_rfl) ?_
  refine TriE.seq ?_
  refine TriE.seq ?_
  refine TriE.regJ ?_
  obtain ⟨y1, hy1, h⟩ := bind_some h
  refine RegJ.op (Op1.call (y' := vb y1) (obx := []) (oby := []) (ob2 := []) _ _ (cz (I0 18 (.call 14 [])) (by kernel_rfl)) rfl (agraffelaw08_awake_ok n y1 hy1) [] (by kernel_rfl) (.cons rfl .nil) (by kernel_rfl) (by kernel_rfl) ObsRen.nil (by kernel_rfl) ObsRen.nil (by kernel_rfl)) ?_
  refine jrd 1 [(0, eS 6 eTask a0), (1, eS 3 eStocked a1), (2, eS 2 eFinding a2), (19, vb (!y1))] [] (by kernel_rfl) rfl ?_
  refine TriE.cond (b := !y1) rfl (fun c1 => ?_) (fun c1 => ?_)
  · have h := cond_t h c1
    refine TriE.seq ?_
    refine TriE.run [(6, vb false)] [] (by kernel_rfl) ?_
    refine TriE.ret ?_
    have h := Option.some.inj h
    subst h
    exact DoneS.ret (S' := ⟨[(6, vb false)], []⟩) Sees.refl rfl rfl
  have h := cond_f h c1
  refine TriE.skip ?_
  refine TriE.seq ?_
  refine TriE.seq ?_
  refine TriE.regJ ?_
  refine RegJ.run 1 [(0, eS 6 eTask a0), (1, eS 3 eStocked a1), (2, eS 2 eFinding a2), (20, eS 6 eTask a0)] [] (by kernel_rfl) ?_
  obtain ⟨y2, hy2, h⟩ := bind_some h
  refine RegJ.op (Op1.call (y' := vb y2) (obx := []) (oby := []) (ob2 := []) _ _ (cz (I0 21 (.call 15 [(.t 20)])) (by kernel_rfl)) rfl (agraffelaw08_Few_ok n a0 y2 hy2) [] (by kernel_rfl) (.cons rfl (.cons rfl .nil)) (by kernel_rfl) (by kernel_rfl) ObsRen.nil (by kernel_rfl) ObsRen.nil (by kernel_rfl)) ?_
  refine RegJ.run 2 [(0, eS 6 eTask a0), (1, eS 3 eStocked a1), (2, eS 2 eFinding a2), (23, vb (!y2))] [] (by kernel_rfl) ?_
  refine RegJ.op (Op1.valk (g := !(!y2)) (v := eS 3 eStocked a1) _ _ (cz (IG 24 (.mov (.t 1)) 23 false) (by kernel_rfl)) rfl (by kernel_rfl) (fun hg => (.cons rfl .nil))) ?_
  obtain ⟨y3, hy3, h⟩ := bind_some h
  refine RegJ.op (Op1.callg (g := !(!y2)) (y' := vb y3) (obx := []) _ _ (cz (IG 25 (.call 16 [(.t 24)]) 23 false) (by kernel_rfl)) rfl (fun hg => agraffelaw08_stocked_ok n a1 y3 (gcall_some hy3 hg)) [] (fun hg => by kernel_rfl) (fun hg => (.cons rfl (.cons hg .nil))) (by kernel_rfl) (by kernel_rfl) ObsRen.nil (by kernel_rfl) (by kernel_rfl)) ?_
  refine RegJ.op (Op1.valk (g := !(!y2)) (v := vb (!y3)) _ _ (cz (IG 26 (.un .not (.t 25)) 23 false) (by kernel_rfl)) rfl (by kernel_rfl) (fun hg => (.cons hg .nil))) ?_
  refine RegJ.op (Op1.or (cz (I0 27 (.pick (.t 23) (.c (.p (.bool true))) (.t 26))) (by kernel_rfl)) rfl rfl (by first | exact hokO1 | exact hokO0 | simp)) ?_
  refine RegJ.run 1 [(0, eS 6 eTask a0), (1, eS 3 eStocked a1), (2, eS 2 eFinding a2), (28, vb ((!y2) || (!y3)))] [] (by kernel_rfl) ?_
  refine RegJ.op (Op1.valk (g := !((!y2) || (!y3))) (v := eS 2 eFinding a2) _ _ (cz (IG 29 (.mov (.t 2)) 28 false) (by kernel_rfl)) rfl (by kernel_rfl) (fun hg => (.cons rfl .nil))) ?_
  refine RegJ.op (Op1.valg (g := !((!y2) || (!y3))) (v := vi ((a2.length : Nat) : Int)) _ _ (cz (IG 30 (.len 0 (.t 29)) 28 false) (by kernel_rfl)) rfl (fun hg => (ok_len_m rfl)) (fun hg => (.cons hg .nil))) ?_
  refine RegJ.op (Op1.valg (g := !((!y2) || (!y3))) (v := vb (decide (6 < a2.length))) _ _ (cz (IG 31 (.bin .gtr false (.t 30) (.c (.p (.int .i64 6)))) 28 false) (by kernel_rfl)) rfl (fun hg => (n_gtr (i := a2.length) (j := 6) rfl rfl)) (fun hg => (.cons hg (.cons rfl .nil)))) ?_
  refine RegJ.op (Op1.or (cz (I0 32 (.pick (.t 28) (.c (.p (.bool true))) (.t 31))) (by kernel_rfl)) rfl rfl (by first | exact hokO1 | exact hokO0 | simp)) ?_
  refine jd [(0, eS 6 eTask a0), (1, eS 3 eStocked a1), (2, eS 2 eFinding a2), (32, vb (((!y2) || (!y3)) || (decide (6 < a2.length))))] (by kernel_rfl) rfl ?_
  refine TriE.cond (b := ((!y2) || (!y3)) || (decide (6 < a2.length))) rfl (fun c2 => ?_) (fun c2 => ?_)
  · have h := cond_t h c2
    refine TriE.seq ?_
    refine TriE.run [(6, vb true)] [] (by kernel_rfl) ?_
    refine TriE.ret ?_
    have h := Option.some.inj h
    subst h
    exact DoneS.ret (S' := ⟨[(6, vb true)], []⟩) Sees.refl rfl rfl
  have h := cond_f h c2
  refine TriE.skip ?_
  refine TriE.seqK h (fun (_ : Unit) => St.mk [(0, eS 6 eTask a0), (1, eS 3 eStocked a1), (2, eS 2 eFinding a2)] []) ?_ ?_
  · rintro ⟨⟩ h
    show TriE _ _ _ _ _ (St.mk [(0, eS 6 eTask a0), (1, eS 3 eStocked a1), (2, eS 2 eFinding a2)] []) _
    refine TriE.seq ?_
    refine TriE.regJ ?_
    refine RegJ.run 1 [(0, eS 6 eTask a0), (1, eS 3 eStocked a1), (2, eS 2 eFinding a2), (56, eS 6 eTask a0)] [] (by kernel_rfl) ?_
    obtain ⟨y7, hy7, h⟩ := bind_some h
    refine RegJ.op (Op1.call (y' := eS 6 eTask y7) (obx := []) (oby := []) (ob2 := []) _ _ (cz (I0 57 (.call 20 [(.t 56)])) (by kernel_rfl)) rfl (agraffelaw08_Copied_ok n a0 y7 hy7) [] (by kernel_rfl) (.cons rfl (.cons rfl .nil)) (by kernel_rfl) (by kernel_rfl) ObsRen.nil (by kernel_rfl) ObsRen.nil (by kernel_rfl)) ?_
    refine RegJ.run 1 [(0, eS 6 eTask a0), (1, eS 3 eStocked a1), (2, eS 2 eFinding a2), (57, eS 6 eTask y7), (58, eS 3 eStocked a1)] [] (by kernel_rfl) ?_
    obtain ⟨y8, hy8, h⟩ := bind_some h
    refine RegJ.op (Op1.call (y' := eS 3 eStocked a1) (obx := []) (oby := []) (ob2 := []) _ _ (cz (I0 59 (.call 23 [(.t 58)])) (by kernel_rfl)) rfl (agraffelaw08_stock_ok n a1 y8 hy8) [] (by kernel_rfl) (.cons rfl (.cons rfl .nil)) (by kernel_rfl) (by kernel_rfl) ObsRen.nil (by kernel_rfl) ObsRen.nil (by kernel_rfl)) ?_
    refine RegJ.run 2 [(0, eS 6 eTask a0), (1, eS 3 eStocked a1), (2, eS 2 eFinding a2), (57, eS 6 eTask y7), (59, eS 3 eStocked a1), (60, .emp), (61, eS 2 eFinding a2)] [] (by kernel_rfl) ?_
    obtain ⟨c6, h⟩ := chk_some h
    refine je (.own 0 0 a2.length) [some (.row 2 (List.map eFinding a2))] (cz (I0 62 (.app 2 40 (.t 60) (.t 61))) (by kernel_rfl)) (ok_app_emp (e := eFinding) (l := a2) (u := eS 2 eFinding a2) rfl rfl els_sl c6) rfl rfl rfl ?_
    refine RegJ.sees (Sees.freeze 0 (fr' := [(0, eS 6 eTask a0), (1, eS 3 eStocked a1), (2, eS 2 eFinding a2), (57, eS 6 eTask y7), (59, eS 3 eStocked a1), (60, .emp), (61, eS 2 eFinding a2), (62, eS 2 eFinding a2)]) (ob' := [none]) rfl (frz_row eFinding_frzE _) (.cons (.refl _) (.cons (.refl _) (.cons (.refl _) (.cons (.refl _) (.cons (.refl _) (.cons (.refl _) (.cons (.refl _) (.cons (frz_full rfl) .nil)))))))) rfl) ?_
    obtain ⟨y9, hy9, h⟩ := bind_some h
    refine RegJ.op (Op1.call (y' := .tup [eS 1 vt y9.2.1, vi y9.2.2, vi y9.1]) (obx := []) (oby := []) (ob2 := [none]) _ _ (cz (I0 63 (.call 36 [(.t 57), (.t 59), (.t 62)])) (by kernel_rfl)) rfl (restore_Estimate_ok n y7 a1 a2 y9 hy9) [] (by kernel_rfl) (.cons rfl (.cons rfl (.cons rfl (.cons rfl .nil)))) (by kernel_rfl) (by kernel_rfl) ObsRen.nil (by kernel_rfl) ObsRen.nil (by kernel_rfl)) ?_
    refine jrd 7 [(0, eS 6 eTask a0), (1, eS 3 eStocked a1), (2, eS 2 eFinding a2), (8, eS 1 vt y9.2.1), (9, vi y9.2.2), (10, vi y9.1)] [none] (by kernel_rfl) rfl ?_
    refine TriE.seq ?_
    refine TriE.regJ ?_
    refine RegJ.run 2 [(0, eS 6 eTask a0), (1, eS 3 eStocked a1), (2, eS 2 eFinding a2), (8, eS 1 vt y9.2.1), (9, vi y9.2.2), (10, vi y9.1), (67, eS 6 eTask a0), (68, eS 2 eFinding a2)] [none] (by kernel_rfl) ?_
    obtain ⟨y10, hy10, h⟩ := bind_some h
    refine RegJ.op (Op1.call (y' := vi y10) (obx := []) (oby := []) (ob2 := [none]) _ _ (cz (I0 69 (.call 26 [(.t 67), (.t 68)])) (by kernel_rfl)) rfl (agrafferef08_CheckFindings_ok n a0 a2 y10 hy10) [] (by kernel_rfl) (.cons rfl (.cons rfl (.cons rfl .nil))) (by kernel_rfl) (by kernel_rfl) ObsRen.nil (by kernel_rfl) ObsRen.nil (by kernel_rfl)) ?_
    refine jrd 1 [(0, eS 6 eTask a0), (1, eS 3 eStocked a1), (2, eS 2 eFinding a2), (8, eS 1 vt y9.2.1), (9, vi y9.2.2), (10, vi y9.1), (11, vi y10)] [none] (by kernel_rfl) rfl ?_
    refine TriE.seqK h (fun (v12 : Int) => St.mk [(0, eS 6 eTask a0), (1, eS 3 eStocked a1), (2, eS 2 eFinding a2), (8, eS 1 vt y9.2.1), (9, vi y9.2.2), (10, vi y9.1), (11, vi v12)] []) ?_ ?_
    · rintro v12 h
      show TriE _ _ _ _ _ (St.mk [(0, eS 6 eTask a0), (1, eS 3 eStocked a1), (2, eS 2 eFinding a2), (8, eS 1 vt y9.2.1), (9, vi y9.2.2), (10, vi y9.1), (11, vi v12)] []) _
      refine TriE.seq ?_
      refine TriE.run [(0, eS 6 eTask a0), (1, eS 3 eStocked a1), (2, eS 2 eFinding a2), (8, eS 1 vt y9.2.1), (9, vi y9.2.2), (10, vi y9.1), (11, vi v12), (12, .emp)] [] (by kernel_rfl) ?_
      refine TriE.seq ?_
      refine TriE.run [(0, eS 6 eTask a0), (1, eS 3 eStocked a1), (2, eS 2 eFinding a2), (8, eS 1 vt y9.2.1), (9, vi y9.2.2), (10, vi y9.1), (11, vi v12), (12, .emp), (13, vi 0)] [] (by kernel_rfl) ?_
      refine TriE.seqK h (fun (t : Int × (List Str) × Int) => match t with | (v15, v16, v17) => St.mk [(0, eS 6 eTask a0), (1, eS 3 eStocked a1), (2, eS 2 eFinding a2), (8, eS 1 vt y9.2.1), (9, vi y9.2.2), (10, vi y9.1), (12, eS 1 vt v16), (13, vi v17), (11, vi v15)] []) ?_ ?_
      · rintro ⟨v15, v16, v17⟩ h
        show TriE _ _ _ _ _ (St.mk [(0, eS 6 eTask a0), (1, eS 3 eStocked a1), (2, eS 2 eFinding a2), (8, eS 1 vt y9.2.1), (9, vi y9.2.2), (10, vi y9.1), (12, eS 1 vt v16), (13, vi v17), (11, vi v15)] []) _
        refine TriE.seq ?_
        refine TriE.seq ?_
        refine TriE.regJ ?_
        refine RegJ.run 4 [(0, eS 6 eTask a0), (1, eS 3 eStocked a1), (2, eS 2 eFinding a2), (8, eS 1 vt y9.2.1), (9, vi y9.2.2), (12, eS 1 vt v16), (13, vi v17), (11, vi v15), (88, vb (y9.1 != v15))] [] (by kernel_rfl) ?_
        refine RegJ.op (Op1.valk (g := !(y9.1 != v15)) (v := vi y9.2.2) _ _ (cz (IG 89 (.mov (.t 9)) 88 false) (by kernel_rfl)) rfl (by kernel_rfl) (fun hg => (.cons rfl .nil))) ?_
        refine RegJ.op (Op1.valk (g := !(y9.1 != v15)) (v := vi v17) _ _ (cz (IG 90 (.mov (.t 13)) 88 false) (by kernel_rfl)) rfl (by kernel_rfl) (fun hg => (.cons rfl .nil))) ?_
        refine RegJ.op (Op1.valk (g := !(y9.1 != v15)) (v := vb (y9.2.2 != v17)) _ _ (cz (IG 91 (.bin .neq false (.t 89) (.t 90)) 88 false) (by kernel_rfl)) rfl (by kernel_rfl) (fun hg => (.cons hg (.cons hg .nil)))) ?_
        refine RegJ.op (Op1.or (cz (I0 92 (.pick (.t 88) (.c (.p (.bool true))) (.t 91))) (by kernel_rfl)) rfl rfl (by first | exact hokO1 | exact hokO0 | simp)) ?_
        refine RegJ.run 1 [(0, eS 6 eTask a0), (1, eS 3 eStocked a1), (2, eS 2 eFinding a2), (8, eS 1 vt y9.2.1), (9, vi y9.2.2), (12, eS 1 vt v16), (11, vi v15), (93, vb ((y9.1 != v15) || (y9.2.2 != v17)))] [] (by kernel_rfl) ?_
        refine RegJ.op (Op1.valk (g := !((y9.1 != v15) || (y9.2.2 != v17))) (v := eS 1 vt y9.2.1) _ _ (cz (IG 94 (.mov (.t 8)) 93 false) (by kernel_rfl)) rfl (by kernel_rfl) (fun hg => (.cons rfl .nil))) ?_
        refine RegJ.op (Op1.valk (g := !((y9.1 != v15) || (y9.2.2 != v17))) (v := eS 1 vt v16) _ _ (cz (IG 95 (.mov (.t 12)) 93 false) (by kernel_rfl)) rfl (by kernel_rfl) (fun hg => (.cons rfl .nil))) ?_
        obtain ⟨y18, hy18, h⟩ := bind_some h
        refine RegJ.op (Op1.callg (g := !((y9.1 != v15) || (y9.2.2 != v17))) (y' := vb y18) (obx := []) _ _ (cz (IG 96 (.call 39 [(.t 94), (.t 95)]) 93 false) (by kernel_rfl)) rfl (fun hg => agraffebase_Texts_ok n y9.2.1 v16 y18 (gcall_some hy18 hg)) [] (fun hg => by kernel_rfl) (fun hg => (.cons rfl (.cons hg (.cons hg .nil)))) (by kernel_rfl) (by kernel_rfl) ObsRen.nil (by kernel_rfl) (by kernel_rfl)) ?_
        refine RegJ.op (Op1.valk (g := !((y9.1 != v15) || (y9.2.2 != v17))) (v := vb (!y18)) _ _ (cz (IG 97 (.un .not (.t 96)) 93 false) (by kernel_rfl)) rfl (by kernel_rfl) (fun hg => (.cons hg .nil))) ?_
        refine RegJ.op (Op1.or (cz (I0 98 (.pick (.t 93) (.c (.p (.bool true))) (.t 97))) (by kernel_rfl)) rfl rfl (by first | exact hokO1 | exact hokO0 | simp)) ?_
        refine jd [(0, eS 6 eTask a0), (1, eS 3 eStocked a1), (2, eS 2 eFinding a2), (8, eS 1 vt y9.2.1), (9, vi y9.2.2), (11, vi v15), (98, vb (((y9.1 != v15) || (y9.2.2 != v17)) || (!y18)))] (by kernel_rfl) rfl ?_
        refine TriE.cond (b := ((y9.1 != v15) || (y9.2.2 != v17)) || (!y18)) rfl (fun c9 => ?_) (fun c9 => ?_)
        · have h := cond_t h c9
          refine TriE.seq ?_
          refine TriE.run [(6, vb false)] [] (by kernel_rfl) ?_
          refine TriE.ret ?_
          have h := Option.some.inj h
          subst h
          exact DoneS.ret (S' := ⟨[(6, vb false)], []⟩) Sees.refl rfl rfl
        have h := cond_f h c9
        refine TriE.skip ?_
        refine TriE.seq ?_
        refine TriE.seq ?_
        refine TriE.regJ ?_
        refine RegJ.run 3 [(0, eS 6 eTask a0), (1, eS 3 eStocked a1), (2, eS 2 eFinding a2), (8, eS 1 vt y9.2.1), (9, vi y9.2.2), (101, vb (v15 != (0 : Int)))] [] (by kernel_rfl) ?_
        refine RegJ.op (Op1.valk (g := !(v15 != (0 : Int))) (v := eS 2 eFinding a2) _ _ (cz (IG 102 (.mov (.t 2)) 101 false) (by kernel_rfl)) rfl (by kernel_rfl) (fun hg => (.cons rfl .nil))) ?_
        refine RegJ.op (Op1.valg (g := !(v15 != (0 : Int))) (v := vi ((a2.length : Nat) : Int)) _ _ (cz (IG 103 (.len 0 (.t 102)) 101 false) (by kernel_rfl)) rfl (fun hg => (ok_len_m rfl)) (fun hg => (.cons hg .nil))) ?_
        refine RegJ.op (Op1.valg (g := !(v15 != (0 : Int))) (v := vb (decide (a2.length = 0))) _ _ (cz (IG 104 (.bin .eql false (.t 103) (.c (.p (.int .i64 0)))) 101 false) (by kernel_rfl)) rfl (fun hg => (n_eql (i := a2.length) (j := 0) rfl rfl)) (fun hg => (.cons hg (.cons rfl .nil)))) ?_
        refine RegJ.op (Op1.or (cz (I0 105 (.pick (.t 101) (.c (.p (.bool true))) (.t 104))) (by kernel_rfl)) rfl rfl (by first | exact hokO1 | exact hokO0 | simp)) ?_
        refine RegJ.run 1 [(0, eS 6 eTask a0), (1, eS 3 eStocked a1), (2, eS 2 eFinding a2), (8, eS 1 vt y9.2.1), (9, vi y9.2.2), (106, vb ((v15 != (0 : Int)) || (decide (a2.length = 0))))] [] (by kernel_rfl) ?_
        refine RegJ.op (Op1.valk (g := !((v15 != (0 : Int)) || (decide (a2.length = 0)))) (v := eS 2 eFinding a2) _ _ (cz (IG 107 (.mov (.t 2)) 106 false) (by kernel_rfl)) rfl (by kernel_rfl) (fun hg => (.cons rfl .nil))) ?_
        obtain ⟨c10, h⟩ := chk_some h
        refine RegJ.op (Op1.valg (g := !((v15 != (0 : Int)) || (decide (a2.length = 0)))) (v := .fptr 2 (List.map eFinding a2) 0 0) _ _ (cz (IG 108 (.iaddr 2 (.t 107) (.c (.p (.int .i64 0)))) 106 false) (by kernel_rfl)) rfl (fun hg => (ok_iaddr_m (j := 0) rfl rfl rfl (gor c10 hg))) (fun hg => (.cons hg (.cons rfl .nil)))) ?_
        refine RegJ.op (Op1.valk (g := !((v15 != (0 : Int)) || (decide (a2.length = 0)))) (v := .fptr 2 (List.map eFinding a2) 0 1) _ _ (cz (IG 109 (.faddr 1 (.t 108)) 106 false) (by kernel_rfl)) rfl (by kernel_rfl) (fun hg => (.cons hg .nil))) ?_
        obtain ⟨c11, h⟩ := chk_some h
        refine RegJ.op (Op1.valg (g := !((v15 != (0 : Int)) || (decide (a2.length = 0)))) (v := eS 1 vt ((ix a2 0).Tasks)) _ _ (cz (IG 110 (.load false 1 (.t 109)) 106 false) (by kernel_rfl)) rfl (fun hg => (ok_load_fm (v := eS 1 vt ((ix a2 0).Tasks)) rfl (gor c11 hg) rfl)) (fun hg => (.cons hg .nil))) ?_
        refine RegJ.op (Op1.valg (g := !((v15 != (0 : Int)) || (decide (a2.length = 0)))) (v := vi ((((ix a2 0).Tasks).length : Nat) : Int)) _ _ (cz (IG 111 (.len 0 (.t 110)) 106 false) (by kernel_rfl)) rfl (fun hg => (ok_len_m rfl)) (fun hg => (.cons hg .nil))) ?_
        refine RegJ.op (Op1.valg (g := !((v15 != (0 : Int)) || (decide (a2.length = 0)))) (v := vb (decide ((((ix a2 0).Tasks).length) = 0))) _ _ (cz (IG 112 (.bin .eql false (.t 111) (.c (.p (.int .i64 0)))) 106 false) (by kernel_rfl)) rfl (fun hg => (n_eql (i := ((ix a2 0).Tasks).length) (j := 0) rfl rfl)) (fun hg => (.cons hg (.cons rfl .nil)))) ?_
        refine RegJ.op (Op1.or (cz (I0 113 (.pick (.t 106) (.c (.p (.bool true))) (.t 112))) (by kernel_rfl)) rfl rfl (by first | exact hokO1 | exact hokO0 | simp)) ?_
        refine jd [(0, eS 6 eTask a0), (1, eS 3 eStocked a1), (2, eS 2 eFinding a2), (8, eS 1 vt y9.2.1), (9, vi y9.2.2), (113, vb (((v15 != (0 : Int)) || (decide (a2.length = 0))) || (decide ((((ix a2 0).Tasks).length) = 0))))] (by kernel_rfl) rfl ?_
        refine TriE.cond (b := ((v15 != (0 : Int)) || (decide (a2.length = 0))) || (decide ((((ix a2 0).Tasks).length) = 0))) rfl (fun c12 => ?_) (fun c12 => ?_)
        · have h := cond_t h c12
          refine TriE.seq ?_
          refine TriE.run [(6, vb true)] [] (by kernel_rfl) ?_
          refine TriE.ret ?_
          have h := Option.some.inj h
          subst h
          exact DoneS.ret (S' := ⟨[(6, vb true)], []⟩) Sees.refl rfl rfl
        have h := cond_f h c12
        refine TriE.skip ?_
        refine TriE.seq ?_
        refine TriE.sees (Sees.less (fr' := [(0, eS 6 eTask a0), (1, eS 3 eStocked a1), (2, eS 2 eFinding a2), (8, eS 1 vt y9.2.1), (9, vi y9.2.2)]) (.cons rfl (.cons rfl (.cons rfl (.cons rfl (.cons rfl .nil)))))) ?_
        refine TriE.draw (by kernel_rfl) ?_
        refine RegD.run 2 [(115, eS 2 eFinding a2), (114, .emp), (0, eS 6 eTask a0), (1, eS 3 eStocked a1), (2, eS 2 eFinding a2), (8, eS 1 vt y9.2.1), (9, vi y9.2.2)] [none, none] (by kernel_rfl) ?_
        refine de (.own 2 0 a2.length) [none, none, some (.row 2 (List.map eFinding a2))] (cz (I0 116 (.app 2 40 (.t 114) (.t 115))) (by kernel_rfl)) (ok_app_emp (e := eFinding) (l := a2) (u := eS 2 eFinding a2) rfl rfl els_sl c6) rfl rfl rfl ?_
        refine RegD.run 1 [(117, eS 2 eFinding a2), (116, .own 2 0 a2.length), (115, eS 2 eFinding a2), (114, .emp), (0, eS 6 eTask a0), (1, eS 3 eStocked a1), (2, eS 2 eFinding a2), (8, eS 1 vt y9.2.1), (9, vi y9.2.2)] [none, none, some (.row 2 (List.map eFinding a2)), none] (by kernel_rfl) ?_
        obtain ⟨c13, h⟩ := chk_some h
        refine dv (.fptr 2 (List.map eFinding a2) 0 0) (cz (I0 118 (.iaddr 2 (.t 117) (.c (.p (.int .i64 0))))) (by kernel_rfl)) (ok_iaddr_m (j := 0) rfl rfl rfl c13) rfl ?_
        refine RegD.run 1 [(119, .fptr 2 (List.map eFinding a2) 0 1), (118, .fptr 2 (List.map eFinding a2) 0 0), (117, eS 2 eFinding a2), (116, .own 2 0 a2.length), (115, eS 2 eFinding a2), (114, .emp), (0, eS 6 eTask a0), (1, eS 3 eStocked a1), (2, eS 2 eFinding a2), (8, eS 1 vt y9.2.1), (9, vi y9.2.2)] [none, none, some (.row 2 (List.map eFinding a2)), none, none, none] (by kernel_rfl) ?_
        refine dv (eS 1 vt ((ix a2 0).Tasks)) (cz (I0 120 (.load false 1 (.t 119))) (by kernel_rfl)) (ok_load_fm (v := eS 1 vt ((ix a2 0).Tasks)) rfl c13 rfl) rfl ?_
        obtain ⟨c14, h⟩ := chk_some h
        refine dv (eS 1 vt (List.take 1 ((ix a2 0).Tasks))) (cz (I0 121 (.slc 1 (.t 120) none (some (.c (.p (.int .i64 1)))) none)) (by kernel_rfl)) (ok_slc_hi (j := 1) rfl rfl rfl c14) rfl ?_
        refine RegD.run 2 [(123, .own 9 0 1), (122, .agg [vt ([122, 122] : Str), eS 1 vt (List.take 1 ((ix a2 0).Tasks))]), (121, eS 1 vt (List.take 1 ((ix a2 0).Tasks))), (120, eS 1 vt ((ix a2 0).Tasks)), (119, .fptr 2 (List.map eFinding a2) 0 1), (118, .fptr 2 (List.map eFinding a2) 0 0), (117, eS 2 eFinding a2), (116, .own 2 0 a2.length), (115, eS 2 eFinding a2), (114, .emp), (0, eS 6 eTask a0), (1, eS 3 eStocked a1), (2, eS 2 eFinding a2), (8, eS 1 vt y9.2.1), (9, vi y9.2.2)] [none, none, some (.row 2 (List.map eFinding a2)), none, none, none, none, none, none, some (.row 2 [.agg [vt ([122, 122] : Str), eS 1 vt (List.take 1 ((ix a2 0).Tasks))]])] (by kernel_rfl) ?_
        obtain ⟨c15, h⟩ := chk_some h
        refine de (.own 10 0 ((a2 ++ ([(Finding.mk ([122, 122] : Str) (List.take 1 ((ix a2 0).Tasks)))] : List Finding)).length)) [none, none, none, none, none, none, none, none, none, some (.row 2 [.agg [vt ([122, 122] : Str), eS 1 vt (List.take 1 ((ix a2 0).Tasks))]]), some (.row 2 (List.map eFinding (a2 ++ ([(Finding.mk ([122, 122] : Str) (List.take 1 ((ix a2 0).Tasks)))] : List Finding))))] (cz (I0 124 (.app 2 40 (.t 116) (.t 123))) (by kernel_rfl)) (ok_app_own (l := a2) (l2 := ([(Finding.mk ([122, 122] : Str) (List.take 1 ((ix a2 0).Tasks)))] : List Finding)) (e := eFinding) (u := .own 9 0 1) rfl rfl rfl rfl rfl c15) rfl rfl rfl ?_
        refine RegD.run 1 [(14, .own 10 0 ((a2 ++ ([(Finding.mk ([122, 122] : Str) (List.take 1 ((ix a2 0).Tasks)))] : List Finding)).length)), (124, .own 10 0 ((a2 ++ ([(Finding.mk ([122, 122] : Str) (List.take 1 ((ix a2 0).Tasks)))] : List Finding)).length)), (123, .own 9 0 1), (122, .agg [vt ([122, 122] : Str), eS 1 vt (List.take 1 ((ix a2 0).Tasks))]), (121, eS 1 vt (List.take 1 ((ix a2 0).Tasks))), (120, eS 1 vt ((ix a2 0).Tasks)), (119, .fptr 2 (List.map eFinding a2) 0 1), (118, .fptr 2 (List.map eFinding a2) 0 0), (117, eS 2 eFinding a2), (116, .own 2 0 a2.length), (115, eS 2 eFinding a2), (114, .emp), (0, eS 6 eTask a0), (1, eS 3 eStocked a1), (2, eS 2 eFinding a2), (8, eS 1 vt y9.2.1), (9, vi y9.2.2)] [none, none, none, none, none, none, none, none, none, some (.row 2 [.agg [vt ([122, 122] : Str), eS 1 vt (List.take 1 ((ix a2 0).Tasks))]]), some (.row 2 (List.map eFinding (a2 ++ ([(Finding.mk ([122, 122] : Str) (List.take 1 ((ix a2 0).Tasks)))] : List Finding)))), none] (by kernel_rfl) ?_
        refine RegD.done rfl (by kernel_rfl) (S' := ⟨[(0, eS 6 eTask a0), (1, eS 3 eStocked a1), (8, eS 1 vt y9.2.1), (9, vi y9.2.2), (14, .own 0 0 ((a2 ++ ([(Finding.mk ([122, 122] : Str) (List.take 1 ((ix a2 0).Tasks)))] : List Finding)).length))], [some (.row 2 (List.map eFinding (a2 ++ ([(Finding.mk ([122, 122] : Str) (List.take 1 ((ix a2 0).Tasks)))] : List Finding))))]⟩) (sc [10] (by decide) (by kernel_rfl) (obRen_row eFinding_frz rfl .nil) rfl rfl) ?_
        refine TriE.seq ?_
        refine TriE.seq ?_
        refine TriE.regJ ?_
        refine RegJ.run 2 [(0, eS 6 eTask a0), (1, eS 3 eStocked a1), (8, eS 1 vt y9.2.1), (9, vi y9.2.2), (14, .own 0 0 ((a2 ++ ([(Finding.mk ([122, 122] : Str) (List.take 1 ((ix a2 0).Tasks)))] : List Finding)).length)), (125, eS 6 eTask a0), (126, .own 0 0 ((a2 ++ ([(Finding.mk ([122, 122] : Str) (List.take 1 ((ix a2 0).Tasks)))] : List Finding)).length))] [some (.row 2 (List.map eFinding (a2 ++ ([(Finding.mk ([122, 122] : Str) (List.take 1 ((ix a2 0).Tasks)))] : List Finding))))] (by kernel_rfl) ?_
        obtain ⟨y19, hy19, h⟩ := bind_some h
        refine RegJ.op (Op1.call (y' := vi y19) (obx := [some (.row 2 (List.map eFinding (a2 ++ ([(Finding.mk ([122, 122] : Str) (List.take 1 ((ix a2 0).Tasks)))] : List Finding))))]) (oby := [some (.row 2 (List.map eFinding (a2 ++ ([(Finding.mk ([122, 122] : Str) (List.take 1 ((ix a2 0).Tasks)))] : List Finding))))]) (ob2 := [some (.row 2 (List.map eFinding (a2 ++ ([(Finding.mk ([122, 122] : Str) (List.take 1 ((ix a2 0).Tasks)))] : List Finding))))]) _ _ (cz (I0 127 (.call 26 [(.t 125), (.t 126)])) (by kernel_rfl)) rfl (agrafferef08_CheckFindings_2_ok n a0 (a2 ++ ([(Finding.mk ([122, 122] : Str) (List.take 1 ((ix a2 0).Tasks)))] : List Finding)) y19 hy19) [0] (by kernel_rfl) (.cons rfl (.cons rfl (.cons rfl .nil))) (by kernel_rfl) (by kernel_rfl) (.same (row_ren eFinding_frz _ _ _) .nil) (by kernel_rfl) (.same (row_ren eFinding_frz _ _ _) .nil) (by kernel_rfl)) ?_
        refine jrd 1 [(0, eS 6 eTask a0), (1, eS 3 eStocked a1), (8, eS 1 vt y9.2.1), (9, vi y9.2.2), (14, .own 0 0 ((a2 ++ ([(Finding.mk ([122, 122] : Str) (List.take 1 ((ix a2 0).Tasks)))] : List Finding)).length)), (128, vb (y19 != (0 : Int)))] [some (.row 2 (List.map eFinding (a2 ++ ([(Finding.mk ([122, 122] : Str) (List.take 1 ((ix a2 0).Tasks)))] : List Finding))))] (by kernel_rfl) rfl ?_
        refine TriE.cond (b := (y19 != (0 : Int))) rfl (fun c16 => ?_) (fun c16 => ?_)
        · have h := cond_t h c16
          refine TriE.seq ?_
          refine TriE.run [(6, vb true)] [some (.row 2 (List.map eFinding (a2 ++ ([(Finding.mk ([122, 122] : Str) (List.take 1 ((ix a2 0).Tasks)))] : List Finding))))] (by kernel_rfl) ?_
          refine TriE.ret ?_
          have h := Option.some.inj h
          subst h
          exact DoneS.ret (S' := ⟨[(6, vb true)], []⟩) (sc [] (by decide) (by kernel_rfl) ObRen.nil rfl rfl) rfl rfl
        have h := cond_f h c16
        refine TriE.skip ?_
        refine TriE.seq ?_
        refine TriE.regJ ?_
        refine RegJ.run 1 [(1, eS 3 eStocked a1), (8, eS 1 vt y9.2.1), (9, vi y9.2.2), (14, .own 0 0 ((a2 ++ ([(Finding.mk ([122, 122] : Str) (List.take 1 ((ix a2 0).Tasks)))] : List Finding)).length)), (130, eS 6 eTask a0)] [some (.row 2 (List.map eFinding (a2 ++ ([(Finding.mk ([122, 122] : Str) (List.take 1 ((ix a2 0).Tasks)))] : List Finding))))] (by kernel_rfl) ?_
        obtain ⟨y20, hy20, h⟩ := bind_some h
        refine RegJ.op (Op1.call (y' := eS 6 eTask y20) (obx := []) (oby := []) (ob2 := [some (.row 2 (List.map eFinding (a2 ++ ([(Finding.mk ([122, 122] : Str) (List.take 1 ((ix a2 0).Tasks)))] : List Finding))))]) _ _ (cz (I0 131 (.call 20 [(.t 130)])) (by kernel_rfl)) rfl (agraffelaw08_Copied_ok n a0 y20 hy20) [] (by kernel_rfl) (.cons rfl (.cons rfl .nil)) (by kernel_rfl) (by kernel_rfl) ObsRen.nil (by kernel_rfl) ObsRen.nil (by kernel_rfl)) ?_
        refine RegJ.run 1 [(8, eS 1 vt y9.2.1), (9, vi y9.2.2), (14, .own 0 0 ((a2 ++ ([(Finding.mk ([122, 122] : Str) (List.take 1 ((ix a2 0).Tasks)))] : List Finding)).length)), (131, eS 6 eTask y20), (132, eS 3 eStocked a1)] [some (.row 2 (List.map eFinding (a2 ++ ([(Finding.mk ([122, 122] : Str) (List.take 1 ((ix a2 0).Tasks)))] : List Finding))))] (by kernel_rfl) ?_
        obtain ⟨y21, hy21, h⟩ := bind_some h
        refine RegJ.op (Op1.call (y' := eS 3 eStocked a1) (obx := []) (oby := []) (ob2 := [some (.row 2 (List.map eFinding (a2 ++ ([(Finding.mk ([122, 122] : Str) (List.take 1 ((ix a2 0).Tasks)))] : List Finding))))]) _ _ (cz (I0 133 (.call 23 [(.t 132)])) (by kernel_rfl)) rfl (agraffelaw08_stock_ok n a1 y21 hy21) [] (by kernel_rfl) (.cons rfl (.cons rfl .nil)) (by kernel_rfl) (by kernel_rfl) ObsRen.nil (by kernel_rfl) ObsRen.nil (by kernel_rfl)) ?_
        refine RegJ.run 1 [(8, eS 1 vt y9.2.1), (9, vi y9.2.2), (131, eS 6 eTask y20), (133, eS 3 eStocked a1), (134, .own 0 0 ((a2 ++ ([(Finding.mk ([122, 122] : Str) (List.take 1 ((ix a2 0).Tasks)))] : List Finding)).length))] [some (.row 2 (List.map eFinding (a2 ++ ([(Finding.mk ([122, 122] : Str) (List.take 1 ((ix a2 0).Tasks)))] : List Finding))))] (by kernel_rfl) ?_
        refine RegJ.sees (Sees.freeze 0 (fr' := [(8, eS 1 vt y9.2.1), (9, vi y9.2.2), (131, eS 6 eTask y20), (133, eS 3 eStocked a1), (134, eS 2 eFinding (a2 ++ ([(Finding.mk ([122, 122] : Str) (List.take 1 ((ix a2 0).Tasks)))] : List Finding)))]) (ob' := [none]) rfl (frz_row eFinding_frzE _) (.cons (.refl _) (.cons (.refl _) (.cons (.refl _) (.cons (.refl _) (.cons (frz_full rfl) .nil))))) rfl) ?_
        obtain ⟨y22, hy22, h⟩ := bind_some h
        refine RegJ.op (Op1.call (y' := .tup [eS 1 vt y22.2.1, vi y22.2.2, vi y22.1]) (obx := []) (oby := []) (ob2 := [none]) _ _ (cz (I0 135 (.call 36 [(.t 131), (.t 133), (.t 134)])) (by kernel_rfl)) rfl (restore_Estimate_ok n y20 a1 (a2 ++ ([(Finding.mk ([122, 122] : Str) (List.take 1 ((ix a2 0).Tasks)))] : List Finding)) y22 hy22) [] (by kernel_rfl) (.cons rfl (.cons rfl (.cons rfl (.cons rfl .nil)))) (by kernel_rfl) (by kernel_rfl) ObsRen.nil (by kernel_rfl) ObsRen.nil (by kernel_rfl)) ?_
        refine jrd 7 [(8, eS 1 vt y9.2.1), (9, vi y9.2.2), (15, eS 1 vt y22.2.1), (16, vi y22.2.2), (17, vi y22.1)] [none] (by kernel_rfl) rfl ?_
        refine TriE.seq ?_
        refine TriE.regJ ?_
        refine RegJ.run 3 [(8, eS 1 vt y9.2.1), (9, vi y9.2.2), (15, eS 1 vt y22.2.1), (16, vi y22.2.2), (141, vb (y22.1 == (0 : Int)))] [none] (by kernel_rfl) ?_
        refine RegJ.op (Op1.valk (g := (y22.1 == (0 : Int))) (v := vi y22.2.2) _ _ (cz (IG 142 (.mov (.t 16)) 141 true) (by kernel_rfl)) rfl (by kernel_rfl) (fun hg => (.cons rfl .nil))) ?_
        refine RegJ.op (Op1.valk (g := (y22.1 == (0 : Int))) (v := vi y9.2.2) _ _ (cz (IG 143 (.mov (.t 9)) 141 true) (by kernel_rfl)) rfl (by kernel_rfl) (fun hg => (.cons rfl .nil))) ?_
        refine RegJ.op (Op1.valk (g := (y22.1 == (0 : Int))) (v := vb (y22.2.2 == y9.2.2)) _ _ (cz (IG 144 (.bin .eql false (.t 142) (.t 143)) 141 true) (by kernel_rfl)) rfl (by kernel_rfl) (fun hg => (.cons hg (.cons hg .nil)))) ?_
        refine RegJ.op (Op1.and (cz (I0 145 (.pick (.t 141) (.t 144) (.c (.p (.bool false))))) (by kernel_rfl)) rfl rfl (by first | exact hokA1 | exact hokA0 | simp)) ?_
        refine RegJ.run 1 [(8, eS 1 vt y9.2.1), (15, eS 1 vt y22.2.1), (146, vb ((y22.1 == (0 : Int)) && (y22.2.2 == y9.2.2)))] [none] (by kernel_rfl) ?_
        refine RegJ.op (Op1.valk (g := (y22.1 == (0 : Int)) && (y22.2.2 == y9.2.2)) (v := eS 1 vt y22.2.1) _ _ (cz (IG 147 (.mov (.t 15)) 146 true) (by kernel_rfl)) rfl (by kernel_rfl) (fun hg => (.cons rfl .nil))) ?_
        refine RegJ.op (Op1.valk (g := (y22.1 == (0 : Int)) && (y22.2.2 == y9.2.2)) (v := eS 1 vt y9.2.1) _ _ (cz (IG 148 (.mov (.t 8)) 146 true) (by kernel_rfl)) rfl (by kernel_rfl) (fun hg => (.cons rfl .nil))) ?_
        obtain ⟨y23, hy23, h⟩ := bind_some h
        refine RegJ.op (Op1.callg (g := (y22.1 == (0 : Int)) && (y22.2.2 == y9.2.2)) (y' := vb y23) (obx := []) _ _ (cz (IG 149 (.call 39 [(.t 147), (.t 148)]) 146 true) (by kernel_rfl)) rfl (fun hg => agraffebase_Texts_ok n y22.2.1 y9.2.1 y23 (gcall_some hy23 hg)) [] (fun hg => by kernel_rfl) (fun hg => (.cons rfl (.cons hg (.cons hg .nil)))) (by kernel_rfl) (by kernel_rfl) ObsRen.nil (by kernel_rfl) (by kernel_rfl)) ?_
        refine RegJ.op (Op1.and (cz (I0 150 (.pick (.t 146) (.t 149) (.c (.p (.bool false))))) (by kernel_rfl)) rfl rfl (by first | exact hokA1 | exact hokA0 | simp)) ?_
        refine jrd 1 [(6, vb (((y22.1 == (0 : Int)) && (y22.2.2 == y9.2.2)) && y23))] [none] (by kernel_rfl) rfl ?_
        refine TriE.ret ?_
        have h := Option.some.inj h
        subst h
        exact DoneS.ret (S' := ⟨[(6, vb (((y22.1 == (0 : Int)) && (y22.2.2 == y9.2.2)) && y23))], []⟩) (sc [] (by decide) (by kernel_rfl) ObRen.nil rfl rfl) rfl rfl
      intro k3 h
      refine TriE.seq ?_
      refine TriE.run [(0, eS 6 eTask a0), (1, eS 3 eStocked a1), (2, eS 2 eFinding a2), (8, eS 1 vt y9.2.1), (9, vi y9.2.2), (10, vi y9.1), (11, vi v12), (12, .emp), (13, vi 0), (75, vb (v12 == (0 : Int)))] [] (by kernel_rfl) ?_
      refine TriE.cond (b := (v12 == (0 : Int))) rfl (fun c8 => ?_) (fun c8 => ?_)
      · have h := cond_t h c8
        refine TriE.regJ ?_
        refine RegJ.run 3 [(0, eS 6 eTask a0), (1, eS 3 eStocked a1), (2, eS 2 eFinding a2), (8, eS 1 vt y9.2.1), (9, vi y9.2.2), (10, vi y9.1), (77, eS 6 eTask a0), (78, eS 3 eStocked a1), (79, eS 2 eFinding a2)] [] (by kernel_rfl) ?_
        obtain ⟨y13, hy13, h⟩ := bind_some h
        refine RegJ.op (Op1.call (y' := eS 1 vt y13) (obx := []) (oby := []) (ob2 := []) _ _ (cz (I0 80 (.call 38 [(.t 79)])) (by kernel_rfl)) rfl (agrafferef08_Wanted_ok n a2 y13 hy13) [] (by kernel_rfl) (.cons rfl (.cons rfl .nil)) (by kernel_rfl) (by kernel_rfl) ObsRen.nil (by kernel_rfl) ObsRen.nil (by kernel_rfl)) ?_
        obtain ⟨y14, hy14, h⟩ := bind_some h
        refine RegJ.op (Op1.call (y' := .tup [eS 1 vt y14.2.1, vi y14.2.2, vi y14.1]) (obx := []) (oby := []) (ob2 := []) _ _ (cz (I0 81 (.call 37 [(.t 77), (.t 78), (.t 80)])) (by kernel_rfl)) rfl (agrafferef08_Cheapest_ok n a0 a1 y13 y14 hy14) [] (by kernel_rfl) (.cons rfl (.cons rfl (.cons rfl (.cons rfl .nil)))) (by kernel_rfl) (by kernel_rfl) ObsRen.nil (by kernel_rfl) ObsRen.nil (by kernel_rfl)) ?_
        refine jrd 7 [(0, eS 6 eTask a0), (1, eS 3 eStocked a1), (2, eS 2 eFinding a2), (8, eS 1 vt y9.2.1), (9, vi y9.2.2), (10, vi y9.1), (12, eS 1 vt y14.2.1), (13, vi y14.2.2), (11, vi y14.1)] [] (by kernel_rfl) rfl ?_
        exact Vs.intro Sees.refl ⟨(y14.1, y14.2.1, y14.2.2), rfl, h⟩
      have h := cond_f h c8
      refine TriE.skip ?_
      exact Vs.intro (Sees.trans (Sees.vco (fr' := [(0, eS 6 eTask a0), (1, eS 3 eStocked a1), (2, eS 2 eFinding a2), (8, eS 1 vt y9.2.1), (9, vi y9.2.2), (10, vi y9.1), (12, eS 1 vt ([] : List Str)), (13, vi 0), (11, vi v12)]) (.cons .same (.cons .same (.cons .same (.cons .same (.cons .same (.cons .same (.cons .sl (.cons .same (.cons .same .nil)))))))))) (sl (by kernel_rfl))) ⟨(v12, ([] : List Str), 0), rfl, h⟩
    intro k2 h
    refine TriE.seq ?_
    refine TriE.run [(0, eS 6 eTask a0), (1, eS 3 eStocked a1), (2, eS 2 eFinding a2), (8, eS 1 vt y9.2.1), (9, vi y9.2.2), (10, vi y9.1), (11, vi y10), (71, vb (y10 == (0 : Int)))] [none] (by kernel_rfl) ?_
    refine TriE.cond (b := (y10 == (0 : Int))) rfl (fun c7 => ?_) (fun c7 => ?_)
    · have h := cond_t h c7
      refine TriE.regJ ?_
      refine RegJ.run 1 [(0, eS 6 eTask a0), (1, eS 3 eStocked a1), (2, eS 2 eFinding a2), (8, eS 1 vt y9.2.1), (9, vi y9.2.2), (10, vi y9.1), (72, eS 3 eStocked a1)] [none] (by kernel_rfl) ?_
      obtain ⟨y11, hy11, h⟩ := bind_some h
      refine RegJ.op (Op1.call (y' := vi y11) (obx := []) (oby := []) (ob2 := [none]) _ _ (cz (I0 73 (.call 24 [(.t 72)])) (by kernel_rfl)) rfl (agrafferef08_CheckStock_ok n a1 y11 hy11) [] (by kernel_rfl) (.cons rfl (.cons rfl .nil)) (by kernel_rfl) (by kernel_rfl) ObsRen.nil (by kernel_rfl) ObsRen.nil (by kernel_rfl)) ?_
      refine jrd 1 [(0, eS 6 eTask a0), (1, eS 3 eStocked a1), (2, eS 2 eFinding a2), (8, eS 1 vt y9.2.1), (9, vi y9.2.2), (10, vi y9.1), (11, vi y11)] [none] (by kernel_rfl) rfl ?_
      exact Vs.intro (sc [] (by decide) (by kernel_rfl) ObRen.nil rfl rfl) ⟨y11, rfl, h⟩
    have h := cond_f h c7
    refine TriE.skip ?_
    exact Vs.intro (sc [] (by decide) (by kernel_rfl) ObRen.nil rfl rfl) ⟨y10, rfl, h⟩
  intro k1 h
  refine TriE.seq ?_
  refine TriE.run [(0, eS 6 eTask a0), (1, eS 3 eStocked a1), (2, eS 2 eFinding a2), (7, vi 0)] [] (by kernel_rfl) ?_
  refine TriE.block ?_
  refine TriE.sees (S' := ⟨[(0, eS 6 eTask a0), (1, eS 3 eStocked a1), (2, eS 2 eFinding a2), (7, vi ((0 : Nat) : Int))], []⟩) (sl (by kernel_rfl)) ?_
  refine TriE.loopN h (fun (v5 : Nat) => St.mk [(0, eS 6 eTask a0), (1, eS 3 eStocked a1), (2, eS 2 eFinding a2), (7, vi ((v5 : Nat) : Int))] []) rfl ?_
  clear h
  rintro back v5 h
  dsimp only [agraffelaw08_RestoreEstimates_L1] at h
  show TriE _ _ _ _ _ (St.mk [(0, eS 6 eTask a0), (1, eS 3 eStocked a1), (2, eS 2 eFinding a2), (7, vi ((v5 : Nat) : Int))] []) _
  refine TriE.seq ?_
  refine TriE.seq ?_
  refine TriE.regJ ?_
  refine RegJ.run 2 [(0, eS 6 eTask a0), (1, eS 3 eStocked a1), (2, eS 2 eFinding a2), (7, vi ((v5 : Nat) : Int)), (33, vi ((v5 : Nat) : Int)), (34, eS 2 eFinding a2)] [] (by kernel_rfl) ?_
  refine jv (vi ((a2.length : Nat) : Int)) (cz (I0 35 (.len 0 (.t 34))) (by kernel_rfl)) (ok_len_m rfl) rfl ?_
  refine jv (vb (decide (v5 < a2.length))) (cz (I0 36 (.bin .lss false (.t 33) (.t 35))) (by kernel_rfl)) (n_lss (i := v5) (j := a2.length) rfl rfl) rfl ?_
  refine jd [(0, eS 6 eTask a0), (1, eS 3 eStocked a1), (2, eS 2 eFinding a2), (7, vi ((v5 : Nat) : Int)), (36, vb (decide (v5 < a2.length)))] (by kernel_rfl) rfl ?_
  refine TriE.cond (b := decide (v5 < a2.length)) rfl (fun c3 => ?_) (fun c3 => ?_)
  · have h := cond_t h c3
    refine TriE.skip ?_
    refine TriE.seq ?_
    refine TriE.block ?_
    refine TriE.seq ?_
    refine TriE.regJ ?_
    refine RegJ.run 2 [(0, eS 6 eTask a0), (1, eS 3 eStocked a1), (2, eS 2 eFinding a2), (7, vi ((v5 : Nat) : Int)), (39, eS 2 eFinding a2), (40, vi ((v5 : Nat) : Int))] [] (by kernel_rfl) ?_
    refine jv (.fptr 2 (List.map eFinding a2) v5 0) (cz (I0 41 (.iaddr 2 (.t 39) (.t 40))) (by kernel_rfl)) (ok_iaddr_m (j := v5) rfl rfl rfl c3) rfl ?_
    refine RegJ.run 1 [(0, eS 6 eTask a0), (1, eS 3 eStocked a1), (2, eS 2 eFinding a2), (7, vi ((v5 : Nat) : Int)), (42, .fptr 2 (List.map eFinding a2) v5 0)] [] (by kernel_rfl) ?_
    refine jv (vt ((ix a2 v5).Name)) (cz (I0 43 (.load false 1 (.t 42))) (by kernel_rfl)) (ok_load_fm (v := vt ((ix a2 v5).Name)) rfl c3 rfl) rfl ?_
    refine jv (vi ((((ix a2 v5).Name).length : Nat) : Int)) (cz (I0 44 (.len 1 (.t 43))) (by kernel_rfl)) (ok_len_t rfl) rfl ?_
    refine jv (vb (decide (20 < (((ix a2 v5).Name).length)))) (cz (I0 45 (.bin .gtr false (.t 44) (.c (.p (.int .i64 20))))) (by kernel_rfl)) (n_gtr (i := ((ix a2 v5).Name).length) (j := 20) rfl rfl) rfl ?_
    refine RegJ.run 1 [(0, eS 6 eTask a0), (1, eS 3 eStocked a1), (2, eS 2 eFinding a2), (7, vi ((v5 : Nat) : Int)), (46, vb (decide (20 < (((ix a2 v5).Name).length))))] [] (by kernel_rfl) ?_
    refine RegJ.op (Op1.valk (g := !(decide (20 < (((ix a2 v5).Name).length)))) (v := eS 2 eFinding a2) _ _ (cz (IG 47 (.mov (.t 2)) 46 false) (by kernel_rfl)) rfl (by kernel_rfl) (fun hg => (.cons rfl .nil))) ?_
    refine RegJ.op (Op1.valk (g := !(decide (20 < (((ix a2 v5).Name).length)))) (v := vi ((v5 : Nat) : Int)) _ _ (cz (IG 48 (.mov (.t 7)) 46 false) (by kernel_rfl)) rfl (by kernel_rfl) (fun hg => (.cons rfl .nil))) ?_
    refine RegJ.op (Op1.valg (g := !(decide (20 < (((ix a2 v5).Name).length)))) (v := .fptr 2 (List.map eFinding a2) v5 0) _ _ (cz (IG 49 (.iaddr 2 (.t 47) (.t 48)) 46 false) (by kernel_rfl)) rfl (fun hg => (ok_iaddr_m (j := v5) rfl rfl rfl c3)) (fun hg => (.cons hg (.cons hg .nil)))) ?_
    refine RegJ.op (Op1.valk (g := !(decide (20 < (((ix a2 v5).Name).length)))) (v := .fptr 2 (List.map eFinding a2) v5 1) _ _ (cz (IG 50 (.faddr 1 (.t 49)) 46 false) (by kernel_rfl)) rfl (by kernel_rfl) (fun hg => (.cons hg .nil))) ?_
    refine RegJ.op (Op1.valg (g := !(decide (20 < (((ix a2 v5).Name).length)))) (v := eS 1 vt ((ix a2 v5).Tasks)) _ _ (cz (IG 51 (.load false 1 (.t 50)) 46 false) (by kernel_rfl)) rfl (fun hg => (ok_load_fm (v := eS 1 vt ((ix a2 v5).Tasks)) rfl c3 rfl)) (fun hg => (.cons hg .nil))) ?_
    obtain ⟨y6, hy6, h⟩ := bind_some h
    refine RegJ.op (Op1.callg (g := !(decide (20 < (((ix a2 v5).Name).length)))) (y' := vb y6) (obx := []) _ _ (cz (IG 52 (.call 17 [(.t 51), (.c (.p (.int .i64 23)))]) 46 false) (by kernel_rfl)) rfl (fun hg => agraffelaw08_texts_ok n ((ix a2 v5).Tasks) 23 y6 (gcall_some hy6 hg)) [] (fun hg => by kernel_rfl) (fun hg => (.cons rfl (.cons hg (.cons rfl .nil)))) (by kernel_rfl) (by kernel_rfl) ObsRen.nil (by kernel_rfl) (by kernel_rfl)) ?_
    refine RegJ.op (Op1.valk (g := !(decide (20 < (((ix a2 v5).Name).length)))) (v := vb (!y6)) _ _ (cz (IG 53 (.un .not (.t 52)) 46 false) (by kernel_rfl)) rfl (by kernel_rfl) (fun hg => (.cons hg .nil))) ?_
    refine RegJ.op (Op1.or (cz (I0 54 (.pick (.t 46) (.c (.p (.bool true))) (.t 53))) (by kernel_rfl)) rfl rfl (by first | exact hokO1 | exact hokO0 | simp)) ?_
    refine jd [(0, eS 6 eTask a0), (1, eS 3 eStocked a1), (2, eS 2 eFinding a2), (7, vi ((v5 : Nat) : Int)), (54, vb ((decide (20 < (((ix a2 v5).Name).length))) || (!y6)))] (by kernel_rfl) rfl ?_
    refine TriE.cond (b := (decide (20 < (((ix a2 v5).Name).length))) || (!y6)) rfl (fun c4 => ?_) (fun c4 => ?_)
    · have h := cond_t h c4
      refine TriE.seq ?_
      refine TriE.run [(6, vb true)] [] (by kernel_rfl) ?_
      refine TriE.ret ?_
      have h := Option.some.inj h
      subst h
      exact DoneS.ret (S' := ⟨[(6, vb true)], []⟩) Sees.refl rfl rfl
    have h := cond_f h c4
    refine TriE.skip ?_
    refine TriE.regJ ?_
    refine RegJ.run 1 [(0, eS 6 eTask a0), (1, eS 3 eStocked a1), (2, eS 2 eFinding a2), (37, vi ((v5 : Nat) : Int))] [] (by kernel_rfl) ?_
    obtain ⟨c5, h⟩ := chk_some h
    refine jv (vi ((v5 + 1 : Nat) : Int)) (cz (I0 38 (.bin .add false (.t 37) (.c (.p (.int .i64 1))))) (by kernel_rfl)) (r_addn (i := v5) (j := 1) rfl rfl c5) rfl ?_
    refine jrd 1 [(0, eS 6 eTask a0), (1, eS 3 eStocked a1), (2, eS 2 eFinding a2), (7, vi ((v5 + 1 : Nat) : Int))] [] (by kernel_rfl) rfl ?_
    exact Vs.intro (sl (by kernel_rfl)) ⟨(v5 + 1), rfl, h⟩
  have h := cond_f h c3
  refine TriE.exit ?_
  exact Vs.intro (sl (by kernel_rfl)) ⟨(), rfl, h⟩
end Go.Proofs.YtcdcpambkdlhjaaGreat.As
